/- The law FnInsertionOrders: part 1 of the printed functions and the facts on them that its row leans on (merged by this session's slim.py). -/
import Derived.Test.YteakjjimkagmkaaGreatDoorZFnInsertionOrders0
set_option linter.unusedVariables false
set_option linter.unusedSimpArgs false
namespace Go.Proofs.YteakjjimkagmkaaGreatDoor.G
open Go.RowKit Go.Proofs.YteakjjimkagmkaaGreatDoorW.PrintWords Go.Proofs.YteakjjimkagmkaaGreatDoorW.PrintLast Go.Proofs.YteakjjimkagmkaaGreatDoorW.PrintMore
attribute [local go_sem] max2_int min2_int max_two min_two max_three min_three max_four min_four   -- for this text's walks alone
/-! ### spec_l1Cur_next: function 105 -/
def spec_l1Cur_next.f (s0_0 : List Int) (s0_1 : Int) (s0_2 : Int) : Option (Int × Int × Int) := if s0_1 < (s0_0.length : Int) then (if 0 ≤ s0_1 then (if (wrap64 (s0_1 + 1)) ≤ (s0_0.length : Int) then (some (wrap64 (rd s0_0 s0_1), wrap64 (s0_1 + 1), IntKind.u64.wrap ((IntKind.u64.wrap ((IntKind.u64.wrap (s0_2 * 6364136223846793005)) + (IntKind.u64.wrap (wrap64 (rd s0_0 s0_1))))) + 1442695040888963407))) else (some (wrap64 (Go.bits .and .u64 ((IntKind.u64.wrap ((IntKind.u64.wrap ((IntKind.u64.wrap (s0_2 * 6364136223846793005)) + (IntKind.u64.wrap (wrap64 (rd s0_0 s0_1))))) + 1442695040888963407)) / 1099511627776) 255), wrap64 (s0_1 + 1), IntKind.u64.wrap ((IntKind.u64.wrap ((IntKind.u64.wrap (s0_2 * 6364136223846793005)) + (IntKind.u64.wrap (wrap64 (rd s0_0 s0_1))))) + 1442695040888963407)))) else (none)) else (if (wrap64 (s0_1 + 1)) ≤ (s0_0.length : Int) then (some (0, wrap64 (s0_1 + 1), IntKind.u64.wrap ((IntKind.u64.wrap (IntKind.u64.wrap (s0_2 * 6364136223846793005))) + 1442695040888963407))) else (some (wrap64 (Go.bits .and .u64 ((IntKind.u64.wrap ((IntKind.u64.wrap (IntKind.u64.wrap (s0_2 * 6364136223846793005))) + 1442695040888963407)) / 1099511627776) 255), wrap64 (s0_1 + 1), IntKind.u64.wrap ((IntKind.u64.wrap (IntKind.u64.wrap (s0_2 * 6364136223846793005))) + 1442695040888963407))))
set_option maxHeartbeats 8000000 in
set_option maxRecDepth 100000 in
theorem spec_l1Cur_next.calls (g : Nat) (s0_0 : List Int) (s0_1 : Int) (s0_2 : Int) (r1 : Int) (r2 : Int) (r3 : Int) (w0 w : World) (hI : IsS69 w0 w g s0_0 s0_1 s0_2) (hB : Below w0.heap.size w0 w) (h : spec_l1Cur_next.f s0_0 s0_1 s0_2 = some (r1, r2, r3)) :
  Calls Tryz.prog 105 #[.pointer (some ⟨g, 0, none⟩)] w fun e w' => e = .returned (.int .i64 r1) ∧ IsS69 w0 w' g s0_0 r2 r3 ∧ Below w0.heap.size w0 w' ∧ KeepBut w w' g none := by
 have HI0 := aS_ hI
 have HK := aS_ (KeepBut.refl w g none)
 have HL := aS_ hB.size
 clear hI
 have HW0 := aS_ hB.size
 have HB := aS_ hB
 clear hB
 have H : (if s0_1 < (s0_0.length : Int) then (if 0 ≤ s0_1 then (if (wrap64 (s0_1 + 1)) ≤ (s0_0.length : Int) then (some (wrap64 (rd s0_0 s0_1), wrap64 (s0_1 + 1), IntKind.u64.wrap ((IntKind.u64.wrap ((IntKind.u64.wrap (s0_2 * 6364136223846793005)) + (IntKind.u64.wrap (wrap64 (rd s0_0 s0_1))))) + 1442695040888963407))) else (some (wrap64 (Go.bits .and .u64 ((IntKind.u64.wrap ((IntKind.u64.wrap ((IntKind.u64.wrap (s0_2 * 6364136223846793005)) + (IntKind.u64.wrap (wrap64 (rd s0_0 s0_1))))) + 1442695040888963407)) / 1099511627776) 255), wrap64 (s0_1 + 1), IntKind.u64.wrap ((IntKind.u64.wrap ((IntKind.u64.wrap (s0_2 * 6364136223846793005)) + (IntKind.u64.wrap (wrap64 (rd s0_0 s0_1))))) + 1442695040888963407)))) else (none)) else (if (wrap64 (s0_1 + 1)) ≤ (s0_0.length : Int) then (some (0, wrap64 (s0_1 + 1), IntKind.u64.wrap ((IntKind.u64.wrap (IntKind.u64.wrap (s0_2 * 6364136223846793005))) + 1442695040888963407))) else (some (wrap64 (Go.bits .and .u64 ((IntKind.u64.wrap ((IntKind.u64.wrap (IntKind.u64.wrap (s0_2 * 6364136223846793005))) + 1442695040888963407)) / 1099511627776) 255), wrap64 (s0_1 + 1), IntKind.u64.wrap ((IntKind.u64.wrap (IntKind.u64.wrap (s0_2 * 6364136223846793005))) + 1442695040888963407))))) = some (r1, r2, r3) := h
 clear h
 replace H := id_ H; rcases H with ⟨c2b0, H⟩ | ⟨c2b0, H⟩
 ·replace H := jd_ H; obtain ⟨c3b0, H⟩ := H
  replace H := id_ H; rcases H with ⟨c4b0, H⟩ | ⟨c4b0, H⟩
  ·simp only [Option.some.injEq, Prod.mk.injEq] at H
   obtain ⟨rfl, rfl, rfl⟩ := H
   obtain ⟨ASz5_0, cSz5_0, HGz5, hgz5, HSz5_0⟩ := HI0.out
   have hcz5_0 := cellS69_0 HGz5
   have hcz5_1 := cellS69_1 HGz5
   have hcz5_2 := cellS69_2 HGz5
   have hfz5_1 := blk_frozen HGz5 1
   have hfz5_2 := blk_frozen HGz5 2
   clear HGz5 hgz5
   have p101 : 0 ≤ (s0_1 : Int) := of_decide_eq_true (by assumption)
   have q101 : s0_1 < (s0_0.length : Int) := of_decide_eq_true (by assumption)
   obtain ⟨ad101, e101, hx101_0⟩ := Kd.at_int HSz5_0 s0_1 p101 q101
   cases e101
   replace hx101_0 := pw_cell_below HB.out hx101_0
   replace p101 := eq_true p101
   replace q101 := eq_true q101
   go_enter Tryz.func105, Tryz.ntmps105
   go_wp2
   repeat (go_quiet (fail); try go_wp2)
   go_ret
   exact ⟨eR_, ss_ HI0, bI_ HB HI0, hh_ HK⟩
  simp only [Option.some.injEq, Prod.mk.injEq] at H
  obtain ⟨rfl, rfl, rfl⟩ := H
  obtain ⟨ASz6_0, cSz6_0, HGz6, hgz6, HSz6_0⟩ := HI0.out
  have hcz6_0 := cellS69_0 HGz6
  have hcz6_1 := cellS69_1 HGz6
  have hcz6_2 := cellS69_2 HGz6
  have hfz6_1 := blk_frozen HGz6 1
  have hfz6_2 := blk_frozen HGz6 2
  clear HGz6 hgz6
  have p101 : 0 ≤ (s0_1 : Int) := of_decide_eq_true (by assumption)
  have q101 : s0_1 < (s0_0.length : Int) := of_decide_eq_true (by assumption)
  obtain ⟨ad101, e101, hx101_0⟩ := Kd.at_int HSz6_0 s0_1 p101 q101
  cases e101
  replace hx101_0 := pw_cell_below HB.out hx101_0
  replace p101 := eq_true p101
  replace q101 := eq_true q101
  go_enter Tryz.func105, Tryz.ntmps105
  go_wp2
  repeat (go_quiet (fail); try go_wp2)
  go_ret
  exact ⟨eR_, ss_ HI0, bI_ HB HI0, hh_ HK⟩
 replace H := id_ H; rcases H with ⟨c7b0, H⟩ | ⟨c7b0, H⟩
 ·simp only [Option.some.injEq, Prod.mk.injEq] at H
  obtain ⟨rfl, rfl, rfl⟩ := H
  obtain ⟨ASz8_0, cSz8_0, HGz8, hgz8, HSz8_0⟩ := HI0.out
  have hcz8_0 := cellS69_0 HGz8
  have hcz8_1 := cellS69_1 HGz8
  have hcz8_2 := cellS69_2 HGz8
  have hfz8_1 := blk_frozen HGz8 1
  have hfz8_2 := blk_frozen HGz8 2
  clear HGz8 hgz8
  go_enter Tryz.func105, Tryz.ntmps105
  go_wp2
  repeat (go_quiet (fail); try go_wp2)
  go_ret
  exact ⟨eR_, ss_ HI0, bI_ HB HI0, hh_ HK⟩
 simp only [Option.some.injEq, Prod.mk.injEq] at H
 obtain ⟨rfl, rfl, rfl⟩ := H
 obtain ⟨ASz9_0, cSz9_0, HGz9, hgz9, HSz9_0⟩ := HI0.out
 have hcz9_0 := cellS69_0 HGz9
 have hcz9_1 := cellS69_1 HGz9
 have hcz9_2 := cellS69_2 HGz9
 have hfz9_1 := blk_frozen HGz9 1
 have hfz9_2 := blk_frozen HGz9 2
 clear HGz9 hgz9
 go_enter Tryz.func105, Tryz.ntmps105
 go_wp2
 repeat (go_quiet (fail); try go_wp2)
 go_ret
 exact ⟨eR_, ss_ HI0, bI_ HB HI0, hh_ HK⟩
/-! ### spec_l1Cur_pick: function 88 -/
def spec_l1Cur_pick.f (s0_0 : List Int) (s0_1 : Int) (s0_2 : Int) (a1 : Int) : Option (Int × Int × Int) := if a1 ≤ 1 then (some (0, s0_1, s0_2)) else ((spec_l1Cur_next.f s0_0 s0_1 s0_2).bind fun bt102 => (if a1 > 200 then ((spec_l1Cur_next.f s0_0 bt102.2.1 bt102.2.2).bind fun bt105 => (if a1 = 0 then (none) else (some (Int.tmod (wrap64 ((wrap64 (bt102.1 * 256)) + bt105.1)) a1, bt105.2.1, bt105.2.2)))) else (if a1 = 0 then (none) else (some (Int.tmod bt102.1 a1, bt102.2.1, bt102.2.2)))))
set_option maxHeartbeats 8000000 in
set_option maxRecDepth 100000 in
theorem spec_l1Cur_pick.calls (g : Nat) (s0_0 : List Int) (s0_1 : Int) (s0_2 : Int) (a1 : Int) (r1 : Int) (r2 : Int) (r3 : Int) (w0 w : World) (hI : IsS69 w0 w g s0_0 s0_1 s0_2) (hB : Below w0.heap.size w0 w) (h : spec_l1Cur_pick.f s0_0 s0_1 s0_2 a1 = some (r1, r2, r3)) :
  Calls Tryz.prog 88 #[.pointer (some ⟨g, 0, none⟩), .int .i64 a1] w fun e w' => e = .returned (.int .i64 r1) ∧ IsS69 w0 w' g s0_0 r2 r3 ∧ Below w0.heap.size w0 w' ∧ KeepBut w w' g none := by
 have HI0 := aS_ hI
 have HK := aS_ (KeepBut.refl w g none)
 have HL := aS_ hB.size
 clear hI
 have HW0 := aS_ hB.size
 have HB := aS_ hB
 clear hB
 have H : (if a1 ≤ 1 then (some (0, s0_1, s0_2)) else ((spec_l1Cur_next.f s0_0 s0_1 s0_2).bind fun bt102 => (if a1 > 200 then ((spec_l1Cur_next.f s0_0 bt102.2.1 bt102.2.2).bind fun bt105 => (if a1 = 0 then (none) else (some (Int.tmod (wrap64 ((wrap64 (bt102.1 * 256)) + bt105.1)) a1, bt105.2.1, bt105.2.2)))) else (if a1 = 0 then (none) else (some (Int.tmod bt102.1 a1, bt102.2.1, bt102.2.2)))))) = some (r1, r2, r3) := h
 clear h
 replace H := id_ H; rcases H with ⟨c3b0, H⟩ | ⟨c3b0, H⟩
 ·simp only [Option.some.injEq, Prod.mk.injEq] at H
  obtain ⟨rfl, rfl, rfl⟩ := H
  go_enter Tryz.func88, Tryz.ntmps88
  go_wp2
  go_ret
  exact ⟨eR_, ss_ HI0, bI_ HB HI0, hh_ HK⟩
 replace H := bs_ H; obtain ⟨⟨t102, t103, t104⟩, A4, H⟩ := H
 replace H := id_ H; rcases H with ⟨c5b0, H⟩ | ⟨c5b0, H⟩
 ·replace H := bs_ H; obtain ⟨⟨t105, t106, t107⟩, A6, H⟩ := H
  replace H := jn_ H; obtain ⟨c7, H⟩ := H
  have c7b0 : (a1 == 0) = false := beq_eq_false_iff_ne.mpr c7
  have c7b1 : (a1 != 0) = true := bne_iff_ne.mpr c7
  simp only [Option.some.injEq, Prod.mk.injEq] at H
  obtain ⟨rfl, rfl, rfl⟩ := H
  go_enter Tryz.func88, Tryz.ntmps88
  go_wp2_with (first | ((with_reducible refine gg_ ?_); refine gc_ 105 (some 9) Tryz.func105 #[.pointer (some ⟨g, 0, none⟩)] ?_; (with_reducible refine (spec_l1Cur_next.calls g s0_0 s0_1 s0_2 t102 t103 t104 w0 _ ?side1 ?side2 A4.out).mono ?_); (case side1 => exact ss_ HI0); (case side2 => exact bI_ HB HI0); rintro e w8 ⟨rfl, hi, hb, hk⟩; refine ⟨_, rfl, ?_⟩; replace HK := aS_ (KeepBut.trans (hh_ HK) hk (.inl rfl)); replace HB := aS_ (hb); replace HI0 := aS_ (hi); (try clear hb); (try clear hk); (try clear hi)) | ((with_reducible refine gg_ ?_); refine gc_ 105 (some 15) Tryz.func105 #[.pointer (some ⟨g, 0, none⟩)] ?_; (with_reducible refine (spec_l1Cur_next.calls g s0_0 t103 t104 t105 t106 t107 w0 _ ?side1 ?side2 A6.out).mono ?_); (case side1 => exact ss_ HI0); (case side2 => exact bI_ HB HI0); rintro e w9 ⟨rfl, hi, hb, hk⟩; refine ⟨_, rfl, ?_⟩; replace HK := aS_ (KeepBut.trans (hh_ HK) hk (.inl rfl)); replace HB := aS_ (hb); replace HI0 := aS_ (hi); (try clear hb); (try clear hk); (try clear hi)))
  go_ret
  exact ⟨eR_, ss_ HI0, bI_ HB HI0, hh_ HK⟩
 replace H := jn_ H; obtain ⟨c10, H⟩ := H
 have c10b0 : (a1 == 0) = false := beq_eq_false_iff_ne.mpr c10
 have c10b1 : (a1 != 0) = true := bne_iff_ne.mpr c10
 simp only [Option.some.injEq, Prod.mk.injEq] at H
 obtain ⟨rfl, rfl, rfl⟩ := H
 go_enter Tryz.func88, Tryz.ntmps88
 go_wp2_with (first | ((with_reducible refine gg_ ?_); refine gc_ 105 (some 9) Tryz.func105 #[.pointer (some ⟨g, 0, none⟩)] ?_; (with_reducible refine (spec_l1Cur_next.calls g s0_0 s0_1 s0_2 t102 t103 t104 w0 _ ?side1 ?side2 A4.out).mono ?_); (case side1 => exact ss_ HI0); (case side2 => exact bI_ HB HI0); rintro e w11 ⟨rfl, hi, hb, hk⟩; refine ⟨_, rfl, ?_⟩; replace HK := aS_ (KeepBut.trans (hh_ HK) hk (.inl rfl)); replace HB := aS_ (hb); replace HI0 := aS_ (hi); (try clear hb); (try clear hk); (try clear hi)))
 go_ret
 exact ⟨eR_, ss_ HI0, bI_ HB HI0, hh_ HK⟩
/-! ### spec_l1Cur_one: function 54 -/
def spec_l1Cur_one.f (s0_0 : List Int) (s0_1 : Int) (s0_2 : Int) (a1 : Int) : Option (Bool × Int × Int) := (spec_l1Cur_pick.f s0_0 s0_1 s0_2 a1).bind fun bt108 => (some ((bt108.1 == 0), bt108.2.1, bt108.2.2))
set_option maxHeartbeats 8000000 in
set_option maxRecDepth 100000 in
theorem spec_l1Cur_one.calls (g : Nat) (s0_0 : List Int) (s0_1 : Int) (s0_2 : Int) (a1 : Int) (r1 : Bool) (r2 : Int) (r3 : Int) (w0 w : World) (hI : IsS69 w0 w g s0_0 s0_1 s0_2) (hB : Below w0.heap.size w0 w) (h : spec_l1Cur_one.f s0_0 s0_1 s0_2 a1 = some (r1, r2, r3)) :
  Calls Tryz.prog 54 #[.pointer (some ⟨g, 0, none⟩), .int .i64 a1] w fun e w' => e = .returned (.bool r1) ∧ IsS69 w0 w' g s0_0 r2 r3 ∧ Below w0.heap.size w0 w' ∧ KeepBut w w' g none := by
 have HI0 := aS_ hI
 have HK := aS_ (KeepBut.refl w g none)
 have HL := aS_ hB.size
 clear hI
 have HW0 := aS_ hB.size
 have HB := aS_ hB
 clear hB
 have H : ((spec_l1Cur_pick.f s0_0 s0_1 s0_2 a1).bind fun bt108 => (some ((bt108.1 == 0), bt108.2.1, bt108.2.2))) = some (r1, r2, r3) := h
 clear h
 replace H := bs_ H; obtain ⟨⟨t108, t109, t110⟩, A3, H⟩ := H
 simp only [Option.some.injEq, Prod.mk.injEq] at H
 obtain ⟨rfl, rfl, rfl⟩ := H
 go_enter Tryz.func54, Tryz.ntmps54
 go_wp2_with (first | ((with_reducible refine gg_ ?_); refine gc_ 88 (some 7) Tryz.func88 #[.pointer (some ⟨g, 0, none⟩), .int .i64 a1] ?_; (with_reducible refine (spec_l1Cur_pick.calls g s0_0 s0_1 s0_2 a1 t108 t109 t110 w0 _ ?side1 ?side2 A3.out).mono ?_); (case side1 => exact ss_ HI0); (case side2 => exact bI_ HB HI0); rintro e w4 ⟨rfl, hi, hb, hk⟩; refine ⟨_, rfl, ?_⟩; replace HK := aS_ (KeepBut.trans (hh_ HK) hk (.inl rfl)); replace HB := aS_ (hb); replace HI0 := aS_ (hi); (try clear hb); (try clear hk); (try clear hi)))
 go_ret
 exact ⟨eR_, ss_ HI0, bI_ HB HI0, hh_ HK⟩
/-! ### spec_l1Cur_among: function 59 -/
def spec_l1Cur_among.f (s0_0 : List Int) (s0_1 : Int) (s0_2 : Int) (l1 : List Int) : Option (Int × Int × Int) := (spec_l1Cur_pick.f s0_0 s0_1 s0_2 (l1.length : Int)).bind fun bt111 => (if 0 ≤ bt111.1 then (if bt111.1 < (l1.length : Int) then (some (rd l1 bt111.1, bt111.2.1, bt111.2.2)) else (none)) else (none))
set_option maxHeartbeats 8000000 in
set_option maxRecDepth 100000 in
theorem spec_l1Cur_among.calls (g : Nat) (s0_0 : List Int) (s0_1 : Int) (s0_2 : Int) (A1 : Option Addr) (c1 : Nat) (l1 : List Int) (r1 : Int) (r2 : Int) (r3 : Int) (w0 w : World) (hI : IsS69 w0 w g s0_0 s0_1 s0_2) (hB : Below w0.heap.size w0 w) (hr1 : Kd.C (Kd.int .i64) w A1 l1.length l1) (hc1 : l1.length ≤ c1) (hf1 : ∀ ad, A1 = some ad → 0 < l1.length → ad.block ≠ g) (h : spec_l1Cur_among.f s0_0 s0_1 s0_2 l1 = some (r1, r2, r3)) :
  Calls Tryz.prog 59 #[.pointer (some ⟨g, 0, none⟩), .slice A1 l1.length c1] w fun e w' => e = .returned (.int .i64 r1) ∧ IsS69 w0 w' g s0_0 r2 r3 ∧ Below w0.heap.size w0 w' ∧ KeepBut w w' g none := by
 have HR1 := aS_ hr1
 have HC1 := aS_ hc1
 clear hr1 hc1
 have HI0 := aS_ hI
 have HK := aS_ (KeepBut.refl w g none)
 have HL := aS_ hB.size
 clear hI
 have HW0 := aS_ hB.size
 have HB := aS_ hB
 clear hB
 have H : ((spec_l1Cur_pick.f s0_0 s0_1 s0_2 (l1.length : Int)).bind fun bt111 => (if 0 ≤ bt111.1 then (if bt111.1 < (l1.length : Int) then (some (rd l1 bt111.1, bt111.2.1, bt111.2.2)) else (none)) else (none))) = some (r1, r2, r3) := h
 clear h
 replace H := bs_ H; obtain ⟨⟨t111, t112, t113⟩, A3, H⟩ := H
 replace H := jd_ H; obtain ⟨c4b0, H⟩ := H
 replace H := jd_ H; obtain ⟨c5b0, H⟩ := H
 simp only [Option.some.injEq, Prod.mk.injEq] at H
 obtain ⟨rfl, rfl, rfl⟩ := H
 go_enter Tryz.func59, Tryz.ntmps59
 go_wp2_with (first | ((with_reducible refine gg_ ?_); refine gc_ 88 (some 9) Tryz.func88 #[.pointer (some ⟨g, 0, none⟩), .int .i64 (l1.length : Int)] ?_; (with_reducible refine (spec_l1Cur_pick.calls g s0_0 s0_1 s0_2 (l1.length : Int) t111 t112 t113 w0 _ ?side1 ?side2 A3.out).mono ?_); (case side1 => exact ss_ HI0); (case side2 => exact bI_ HB HI0); rintro e w6 ⟨rfl, hi, hb, hk⟩; refine ⟨_, rfl, ?_⟩; replace HK := aS_ (KeepBut.trans (hh_ HK) hk (.inl rfl)); replace HB := aS_ (hb); replace HI0 := aS_ (hi); (try clear hb); (try clear hk); (try clear hi); have p114 : 0 ≤ (t111 : Int) := of_decide_eq_true (by assumption); have q114 : t111 < (l1.length : Int) := of_decide_eq_true (by assumption); obtain ⟨ad114, e114, hx114_0⟩ := Kd.at_int HR1.out t111 p114 q114; cases e114; replace hx114_0 := keep_cell HK.out hx114_0 (by first | (rw [add_block]; exact hf1 _ rfl (by omega)) | exact hf1 _ rfl (by omega) | exact hf1 ad114 rfl (by omega)); replace p114 := eq_true p114; replace q114 := eq_true q114))
 go_ret
 exact ⟨eR_, ss_ HI0, bI_ HB HI0, hh_ HK⟩
/-! ### spec_l1Has: function 67 -/
def spec_l1Has.l0 : Nat → Int → List Int → Int → Int → Option (Bool)
 | 0, _, _, _, _ => none
 | k + 1, x1, x7, x8, x9 => if x9 < x8 then (if 0 ≤ x9 then (if x9 < (x7.length : Int) then (if (rd x7 x9) = x1 then (some true) else (spec_l1Has.l0 k x1 x7 x8 (wrap64 (x9 + 1)))) else (none)) else (none)) else (some false)
def spec_l1Has.f (k : Nat) (l0 : List Int) (a1 : Int) : Option (Bool) := spec_l1Has.l0 k a1 l0 (l0.length : Int) 0
theorem spec_l1Has.mono_l : ∀ k, (∀ y0 y1 y2 y3, LeO (spec_l1Has.l0 k y0 y1 y2 y3) (spec_l1Has.l0 (k + 1) y0 y1 y2 y3))
 | 0 => fun _ _ _ _ r h => by simp [spec_l1Has.l0] at h
 | k + 1 => by
  have ih0 := spec_l1Has.mono_l k
  intro y0 y1 y2 y3
  unfold spec_l1Has.l0
  exact mo1_ ih0
theorem spec_l1Has.mono : ∀ a0 a1 k, LeO (spec_l1Has.f k a0 a1) (spec_l1Has.f (k + 1) a0 a1) := by
 intro a0 a1 k
 have ih0 := spec_l1Has.mono_l k
 unfold spec_l1Has.f
 exact mo1_ ih0
set_option maxHeartbeats 8000000 in
set_option maxRecDepth 100000 in
theorem spec_l1Has.calls (k : Nat) (A0 : Option Addr) (c0 : Nat) (l0 : List Int) (a1 : Int) (r : Bool) (w : World) (hr0 : Kd.C (Kd.int .i64) w A0 l0.length l0) (hc0 : l0.length ≤ c0) (h : spec_l1Has.f k l0 a1 = some r) :
  Calls Tryz.prog 67 #[.slice A0 l0.length c0, .int .i64 a1] w fun e w' => e = .returned (.bool r) ∧ Drawn0 w w' := by
 have HR0 := aS_ hr0
 have HC0 := aS_ hc0
 clear hr0 hc0
 have H : (spec_l1Has.l0 k a1 l0 (l0.length : Int) 0) = some r := h
 clear h
 have H' := aS_ H
 clear H
 go_enter Tryz.func67, Tryz.ntmps67
 go_wp2
 go_loopg [9] k (fun kq v9 w' => ∃ (x9_1 : Int), v9 = .int .i64 x9_1 ∧ Aside0 (spec_l1Has.l0 kq a1 l0 (l0.length : Int) x9_1 = some r) ∧ Aside0 (kq ≤ k) ∧ Drawn0 w w')
 case atStart => exact ⟨(0), sR_, H', ⟨Nat.le_refl _⟩, by repeat (first | exact Drawn0.refl _ | apply Drawn0.step)⟩
 case round =>
 clear H'
 obtain ⟨x9_1, rfl, HA, HK1, ⟨m1, rfl⟩⟩ := hrel
 cases gk with
 | zero => exact absurd HA.out (by simp [spec_l1Has.l0])
 | succ k1 =>
 have H := HA.out
 clear HA
 simp only [spec_l1Has.l0] at H
 replace H := id_ H; rcases H with ⟨c3b0, H⟩ | ⟨c3b0, H⟩
 ·replace H := jd_ H; obtain ⟨c4b0, H⟩ := H
  replace H := jd_ H; obtain ⟨c5b0, H⟩ := H
  replace H := iq_ H; rcases H with ⟨c6b0, c6b1, H⟩ | ⟨c6b0, c6b1, c6, H⟩
  ·obtain rfl := Option.some.inj H
   have p115 : 0 ≤ (x9_1 : Int) := of_decide_eq_true (by assumption)
   have q115 : x9_1 < (l0.length : Int) := of_decide_eq_true (by assumption)
   obtain ⟨ad115, e115, hx115_0⟩ := Kd.at_int HR0.out x9_1 p115 q115
   cases e115
   replace p115 := eq_true p115
   replace q115 := eq_true q115
   go_wp2
   go_ret
   exact ⟨sR_, by repeat (first | exact Drawn0.refl _ | apply Drawn0.step)⟩
  have H' := aS_ H
  clear H
  have p115 : 0 ≤ (x9_1 : Int) := of_decide_eq_true (by assumption)
  have q115 : x9_1 < (l0.length : Int) := of_decide_eq_true (by assumption)
  obtain ⟨ad115, e115, hx115_0⟩ := Kd.at_int HR0.out x9_1 p115 q115
  cases e115
  replace p115 := eq_true p115
  replace q115 := eq_true q115
  go_wp2
  go_roundg k1
  case measure => have := HK1.out; omega
  case rel => exact ⟨(wrap64 (x9_1 + 1)), sR_, H', ⟨by have := HK1.out; omega⟩, by repeat (first | exact Drawn0.refl _ | apply Drawn0.step)⟩
 obtain rfl := Option.some.inj H
 go_wp2
 go_ret
 exact ⟨sR_, by repeat (first | exact Drawn0.refl _ | apply Drawn0.step)⟩
/-! ### spec_l1Cur_keys: function 84 -/
def spec_l1Cur_keys.l0 : Nat → Int → List Int → Int → List Int → Int → Int → Option (Int × List Int × Int × Int)
 | 0, _, _, _, _, _, _ => none
 | k + 1, x4, x5, x6, x1000, x1001, x1002 => if x6 > 0 then ((spec_l1Cur_among.f x1000 x1001 x1002 (([12, 40, 1000] : List Int))).bind fun bt131 => ((spec_l1Cur_pick.f x1000 bt131.2.1 bt131.2.2 bt131.1).bind fun bt134 => ((spec_l1Has.f k x5 bt134.1).bind fun t137 => (if t137 = true then ((spec_l1Cur_one.f x1000 bt134.2.1 bt134.2.2 20).bind fun bt138 => (if bt138.1 = true then (if x5.length < 17592186044416 then (spec_l1Cur_keys.l0 k x4 (x5 ++ [bt134.1]) (wrap64 (x6 - 1)) x1000 bt138.2.1 bt138.2.2) else (none)) else (spec_l1Cur_keys.l0 k x4 x5 (wrap64 (x6 - 1)) x1000 bt138.2.1 bt138.2.2))) else (if x5.length < 17592186044416 then (spec_l1Cur_keys.l0 k x4 (x5 ++ [bt134.1]) (wrap64 (x6 - 1)) x1000 bt134.2.1 bt134.2.2) else (none)))))) else ((spec_l1Cur_pick.f x1000 x1001 x1002 24).bind fun bt147 => (if bt147.1 = 0 then ((spec_l1Cur_among.f x1000 bt147.2.1 bt147.2.2 (([(-1), 999, 1000] : List Int))).bind fun bt153 => (if x5.length < 17592186044416 then (some (x4, (x5 ++ [bt153.1]), bt153.2.1, bt153.2.2)) else (none))) else (if bt147.1 = 1 then ((spec_l1Cur_among.f x1000 bt147.2.1 bt147.2.2 (([0, 1, (-1), 12, 13] : List Int))).bind fun bt162 => (some (bt162.1, x5, bt162.2.1, bt162.2.2))) else (some (x4, x5, bt147.2.1, bt147.2.2)))))
def spec_l1Cur_keys.f (k : Nat) (s0_0 : List Int) (s0_1 : Int) (s0_2 : Int) : Option (Int × List Int × Int × Int) := (spec_l1Cur_among.f s0_0 s0_1 s0_2 (([4, 7, 11] : List Int))).bind fun bt119 => ((spec_l1Cur_pick.f s0_0 bt119.2.1 bt119.2.2 bt119.1).bind fun bt122 => ((spec_l1Cur_pick.f s0_0 bt122.2.1 bt122.2.2 (wrap64 ((wrap64 (2 + bt122.1)) + 1))).bind fun bt125 => (spec_l1Cur_keys.l0 k (wrap64 (2 + bt122.1)) ([] : List Int) bt125.1 s0_0 bt125.2.1 bt125.2.2)))
theorem spec_l1Cur_keys.mono_l : ∀ k, (∀ y0 y1 y2 y3 y4 y5, LeO (spec_l1Cur_keys.l0 k y0 y1 y2 y3 y4 y5) (spec_l1Cur_keys.l0 (k + 1) y0 y1 y2 y3 y4 y5))
 | 0 => fun _ _ _ _ _ _ r h => by simp [spec_l1Cur_keys.l0] at h
 | k + 1 => by
  have ih0 := spec_l1Cur_keys.mono_l k
  intro y0 y1 y2 y3 y4 y5
  unfold spec_l1Cur_keys.l0
  exact mo2_ ih0 spec_l1Has.mono
theorem spec_l1Cur_keys.mono : ∀ a0 a1 a2 k, LeO (spec_l1Cur_keys.f k a0 a1 a2) (spec_l1Cur_keys.f (k + 1) a0 a1 a2) := by
 intro a0 a1 a2 k
 have ih0 := spec_l1Cur_keys.mono_l k
 unfold spec_l1Cur_keys.f
 exact mo2_ ih0 spec_l1Has.mono
set_option maxHeartbeats 8000000 in
set_option maxRecDepth 100000 in
theorem spec_l1Cur_keys.calls (k : Nat) (g : Nat) (s0_0 : List Int) (s0_1 : Int) (s0_2 : Int) (r1 : Int) (r2 : List Int) (r3 : Int) (r4 : Int) (w0 w : World) (hI : IsS69 w0 w g s0_0 s0_1 s0_2) (hB : Below w0.heap.size w0 w) (h : spec_l1Cur_keys.f k s0_0 s0_1 s0_2 = some (r1, r2, r3, r4)) :
  Calls Tryz.prog 84 #[.pointer (some ⟨g, 0, none⟩)] w fun e w' => ∃ v1_ : Value, e = .returned (.tuple #[.int .i64 r1, v1_]) ∧ Kd.R (Kd.int .i64) 3 w' w.heap.size (fun _ => True) v1_ r2 ∧ IsS69 w0 w' g s0_0 r3 r4 ∧ Below w0.heap.size w0 w' ∧ KeepBut w w' g none := by
 have HI0 := aS_ hI
 have HK := aS_ (KeepBut.refl w g none)
 have HL := aS_ hB.size
 clear hI
 have HW0 := aS_ hB.size
 have HB := aS_ hB
 clear hB
 have H : ((spec_l1Cur_among.f s0_0 s0_1 s0_2 (([4, 7, 11] : List Int))).bind fun bt119 => ((spec_l1Cur_pick.f s0_0 bt119.2.1 bt119.2.2 bt119.1).bind fun bt122 => ((spec_l1Cur_pick.f s0_0 bt122.2.1 bt122.2.2 (wrap64 ((wrap64 (2 + bt122.1)) + 1))).bind fun bt125 => (spec_l1Cur_keys.l0 k (wrap64 (2 + bt122.1)) ([] : List Int) bt125.1 s0_0 bt125.2.1 bt125.2.2)))) = some (r1, r2, r3, r4) := h
 clear h
 obtain ⟨y116, hy116⟩ : ∃ y_ : List Int, y_ = (([4, 7, 11] : List Int)) := ⟨_, rfl⟩
 replace H : ((spec_l1Cur_among.f s0_0 s0_1 s0_2 y116).bind fun bt119 => ((spec_l1Cur_pick.f s0_0 bt119.2.1 bt119.2.2 bt119.1).bind fun bt122 => ((spec_l1Cur_pick.f s0_0 bt122.2.1 bt122.2.2 (wrap64 ((wrap64 (2 + bt122.1)) + 1))).bind fun bt125 => (spec_l1Cur_keys.l0 k (wrap64 (2 + bt122.1)) ([] : List Int) bt125.1 s0_0 bt125.2.1 bt125.2.2)))) = some (r1, r2, r3, r4) := yH_ hy116 H
 have Ny116 := aS_ hy116
 clear hy116
 replace H := bs_ H; obtain ⟨⟨t119, t120, t121⟩, A2, H⟩ := H
 replace H := bs_ H; obtain ⟨⟨t122, t123, t124⟩, A3, H⟩ := H
 replace H := bs_ H; obtain ⟨⟨t125, t126, t127⟩, A4, H⟩ := H
 have H' := aS_ H
 clear H
 go_enter Tryz.func84, Tryz.ntmps84
 go_wp2_with (first | ((with_reducible refine gate_dst (N := 10) rfl ?_); refine Kd.R_lit (Kd.int .i64) _ 3 ?hg (N := 10) ?hd (xs := ([4, 7, 11] : List Int)) (inner := [.int .i64 4, .int .i64 7, .int .i64 11]) (ok := fun _ => True) (okp := fun _ => True) ?hr ?hp (fun _ hk => hk) trivial (Below.refl _ _) (Nat.le_refl _) (by simp) ?_; (case hd => rfl); (case hg => rfl); (case hr => first | (go_simp; done) | (go_simp; rfl)); (case hp => exact (Reps.one (show Kd.M (Kd.int .i64) _ _ _ 4 [.int .i64 4] from rfl) (Reps.one (show Kd.M (Kd.int .i64) _ _ _ 7 [.int .i64 7] from rfl) (Reps.one (show Kd.M (Kd.int .i64) _ _ _ 11 [.int .i64 11] from rfl) (Reps.none _ _))))); intro v117 w5 ho6 hb hg_ hnew_; clear hg_ hnew_; (first | rw [← Ny116.out] at ho6 | (simp only [Int.reduceToNat] at ho6; rw [← Ny116.out] at ho6)); have HO118 := aS_ (Kd.R_lower ho6 (keep_size (w := w) (g := g) (row := none) (hh_ HK))); replace HK := aS_ (KeepBut.trans (hh_ HK) (KeepBut.of_below hb g none) (.inl rfl)); replace HB := aS_ (below_step (bI_ HB HI0) hb); replace HI0 := aS_ (IsS69.below (ss_ HI0) hb); clear hb ho6; obtain ⟨Ao7, co7, eo7⟩ := Kd.R_slice HO118.out; subst eo7) | ((with_reducible refine gg_ ?_); refine gc_ 59 (some 11) Tryz.func59 #[.pointer (some ⟨g, 0, none⟩), .slice Ao7 y116.length co7] ?_; (with_reducible refine (spec_l1Cur_among.calls g s0_0 s0_1 s0_2 _ _ y116 t119 t120 t121 w0 _ ?side1 ?side2 ?side3 ?side4 ?side5 A2.out).mono ?_); (case side1 => exact ss_ HI0); (case side2 => exact bI_ HB HI0); (case side3 => exact cR_ HO118); (case side4 => exact (Kd.R_reads' HO118.out).2.1); (case side5 => exact far_slice (IsS69.own_ne HI0.out HO118.out (by decide))); rintro e w8 ⟨rfl, hi, hb, hk⟩; refine ⟨_, rfl, ?_⟩; replace HO118 := aS_ (Kd.R_mono (Kd.R_keep (IsS69.apart (show IsS69 w0 _ g s0_0 s0_1 s0_2 from ss_ HI0) (rr_ HO118) (by decide)) hk (fun _ h => h.2)) (fun _ h => h.1)); replace HK := aS_ (KeepBut.trans (hh_ HK) hk (.inl rfl)); replace HB := aS_ (hb); replace HI0 := aS_ (hi); (try clear hb); (try clear hk); (try clear hi)) | ((with_reducible refine gg_ ?_); refine gc_ 88 (some 12) Tryz.func88 #[.pointer (some ⟨g, 0, none⟩), .int .i64 t119] ?_; (with_reducible refine (spec_l1Cur_pick.calls g s0_0 t120 t121 t119 t122 t123 t124 w0 _ ?side1 ?side2 A3.out).mono ?_); (case side1 => exact ss_ HI0); (case side2 => exact bI_ HB HI0); rintro e w9 ⟨rfl, hi, hb, hk⟩; refine ⟨_, rfl, ?_⟩; replace HO118 := aS_ (Kd.R_mono (Kd.R_keep (IsS69.apart (show IsS69 w0 _ g s0_0 t120 t121 from ss_ HI0) (rr_ HO118) (by decide)) hk (fun _ h => h.2)) (fun _ h => h.1)); replace HK := aS_ (KeepBut.trans (hh_ HK) hk (.inl rfl)); replace HB := aS_ (hb); replace HI0 := aS_ (hi); (try clear hb); (try clear hk); (try clear hi)) | ((with_reducible refine gg_ ?_); refine gc_ 88 (some 17) Tryz.func88 #[.pointer (some ⟨g, 0, none⟩), .int .i64 (wrap64 ((wrap64 (2 + t122)) + 1))] ?_; (with_reducible refine (spec_l1Cur_pick.calls g s0_0 t123 t124 (wrap64 ((wrap64 (2 + t122)) + 1)) t125 t126 t127 w0 _ ?side1 ?side2 A4.out).mono ?_); (case side1 => exact ss_ HI0); (case side2 => exact bI_ HB HI0); rintro e w10 ⟨rfl, hi, hb, hk⟩; refine ⟨_, rfl, ?_⟩; replace HO118 := aS_ (Kd.R_mono (Kd.R_keep (IsS69.apart (show IsS69 w0 _ g s0_0 t123 t124 from ss_ HI0) (rr_ HO118) (by decide)) hk (fun _ h => h.2)) (fun _ h => h.1)); replace HK := aS_ (KeepBut.trans (hh_ HK) hk (.inl rfl)); replace HB := aS_ (hb); replace HI0 := aS_ (hi); (try clear hb); (try clear hk); (try clear hi)))
 go_loopg [5, 6] k (fun kq v5 v6 w' => ∃ (x5_1 : List Int) (x6_1 : Int) (x1001_1 : Int) (x1002_1 : Int), v6 = .int .i64 x6_1 ∧ Aside0 (spec_l1Cur_keys.l0 kq (wrap64 (2 + t122)) x5_1 x6_1 s0_0 x1001_1 x1002_1 = some (r1, r2, r3, r4)) ∧ Aside0 (kq ≤ k) ∧ Aside0 (Kd.R (Kd.int .i64) 3 w' w.heap.size (fun _ => True) v5 x5_1) ∧ Aside0 (IsS69 w0 w' g s0_0 x1001_1 x1002_1) ∧ Aside0 (KeepBut w w' g none) ∧ Aside0 (Below w0.heap.size w0 w'))
 case atStart => exact ⟨(([] : List Int)), (t125), (t126), (t127), sR_, H', ⟨Nat.le_refl _⟩, ⟨by first | exact Kd.R_nil _ _ _ _ _ | exact Kd.N_nil _ _ _ _ _ | exact Kd.V_nil _ _ _ _ _ | exact Kd.Q_nil _ _ _ _ _ | exact Kd.S_nil _ _ _ _ _⟩, ⟨ss_ HI0⟩, ⟨hh_ HK⟩, ⟨bI_ HB HI0⟩⟩
 case round =>
 clear H'
 obtain ⟨x5_1, x6_1, x1001_1, x1002_1, rfl, HA, HK1, HO_5, HI0, HK, HB⟩ := hrel
 cases gk with
 | zero => exact absurd HA.out (by simp [spec_l1Cur_keys.l0])
 | succ k1 =>
 have H := HA.out
 clear HA
 simp only [spec_l1Cur_keys.l0] at H
 replace H := id_ H; rcases H with ⟨c11b0, H⟩ | ⟨c11b0, H⟩
 ·obtain ⟨y128, hy128⟩ : ∃ y_ : List Int, y_ = (([12, 40, 1000] : List Int)) := ⟨_, rfl⟩
  replace H : ((spec_l1Cur_among.f s0_0 x1001_1 x1002_1 y128).bind fun bt131 => ((spec_l1Cur_pick.f s0_0 bt131.2.1 bt131.2.2 bt131.1).bind fun bt134 => ((spec_l1Has.f k1 x5_1 bt134.1).bind fun t137 => (if t137 = true then ((spec_l1Cur_one.f s0_0 bt134.2.1 bt134.2.2 20).bind fun bt138 => (if bt138.1 = true then (if x5_1.length < 17592186044416 then (spec_l1Cur_keys.l0 k1 (wrap64 (2 + t122)) (x5_1 ++ [bt134.1]) (wrap64 (x6_1 - 1)) s0_0 bt138.2.1 bt138.2.2) else (none)) else (spec_l1Cur_keys.l0 k1 (wrap64 (2 + t122)) x5_1 (wrap64 (x6_1 - 1)) s0_0 bt138.2.1 bt138.2.2))) else (if x5_1.length < 17592186044416 then (spec_l1Cur_keys.l0 k1 (wrap64 (2 + t122)) (x5_1 ++ [bt134.1]) (wrap64 (x6_1 - 1)) s0_0 bt134.2.1 bt134.2.2) else (none)))))) = some (r1, r2, r3, r4) := yH_ hy128 H
  have Ny128 := aS_ hy128
  clear hy128
  replace H := bs_ H; obtain ⟨⟨t131, t132, t133⟩, A12, H⟩ := H
  replace H := bs_ H; obtain ⟨⟨t134, t135, t136⟩, A13, H⟩ := H
  replace H := bs_ H; obtain ⟨t137, A14, H⟩ := H
  replace H := it_ H; rcases H with ⟨rfl, H⟩ | ⟨rfl, H⟩
  ·replace H := bs_ H; obtain ⟨⟨t138, t139, t140⟩, A16, H⟩ := H
   replace H := it_ H; rcases H with ⟨rfl, H⟩ | ⟨rfl, H⟩
   ·replace H := jp_ H; obtain ⟨c18, H⟩ := H
    have LMc18 := aS_ c18
    clear c18
    obtain ⟨y141, hy141⟩ : ∃ y_ : List Int, y_ = (x5_1 ++ [t134]) := ⟨_, rfl⟩
    replace H : (spec_l1Cur_keys.l0 k1 (wrap64 (2 + t122)) y141 (wrap64 (x6_1 - 1)) s0_0 t139 t140) = some (r1, r2, r3, r4) := yH_ hy141 H
    have Ny141 := aS_ hy141
    clear hy141
    have H' := aS_ H
    clear H
    go_wp2_with (first | ((with_reducible refine gate_dst (N := 24) rfl ?_); refine Kd.R_lit (Kd.int .i64) _ 3 ?hg (N := 24) ?hd (xs := ([12, 40, 1000] : List Int)) (inner := [.int .i64 12, .int .i64 40, .int .i64 1000]) (ok := fun _ => True) (okp := fun _ => True) ?hr ?hp (fun _ hk => hk) trivial (Below.refl _ _) (Nat.le_refl _) (by simp) ?_; (case hd => rfl); (case hg => rfl); (case hr => first | (go_simp; done) | (go_simp; rfl)); (case hp => exact (Reps.one (show Kd.M (Kd.int .i64) _ _ _ 12 [.int .i64 12] from rfl) (Reps.one (show Kd.M (Kd.int .i64) _ _ _ 40 [.int .i64 40] from rfl) (Reps.one (show Kd.M (Kd.int .i64) _ _ _ 1000 [.int .i64 1000] from rfl) (Reps.none _ _))))); intro v129 w19 ho20 hb hg_ hnew_; clear hg_ hnew_; (first | rw [← Ny128.out] at ho20 | (simp only [Int.reduceToNat] at ho20; rw [← Ny128.out] at ho20)); have HO130 := aS_ (Kd.R_lower (Kd.R_new' ho20 (Kd.R_lt (rr_ HO_5))) (keep_size (w := w) (g := g) (row := none) (hh_ HK))); replace HO_5 := aS_ (Kd.R_elder' (rr_ HO_5) (Kd.R_base ho20) hb); replace HK := aS_ (KeepBut.trans (hh_ HK) (KeepBut.of_below hb g none) (.inl rfl)); replace HB := aS_ (below_step (bI_ HB HI0) hb); replace HI0 := aS_ (IsS69.below (ss_ HI0) hb); clear hb ho20; obtain ⟨Ao21, co21, eo21⟩ := Kd.R_slice HO130.out; subst eo21) | ((with_reducible refine gg_ ?_); refine gc_ 59 (some 25) Tryz.func59 #[.pointer (some ⟨g, 0, none⟩), .slice Ao21 y128.length co21] ?_; (with_reducible refine (spec_l1Cur_among.calls g s0_0 x1001_1 x1002_1 _ _ y128 t131 t132 t133 w0 _ ?side1 ?side2 ?side3 ?side4 ?side5 A12.out).mono ?_); (case side1 => exact ss_ HI0); (case side2 => exact bI_ HB HI0); (case side3 => exact cR_ HO130); (case side4 => exact (Kd.R_reads' HO130.out).2.1); (case side5 => exact far_slice (IsS69.own_ne HI0.out HO130.out (by decide))); rintro e w22 ⟨rfl, hi, hb, hk⟩; refine ⟨_, rfl, ?_⟩; replace HO_5 := aS_ (Kd.R_mono (Kd.R_keep (IsS69.apart (show IsS69 w0 _ g s0_0 x1001_1 x1002_1 from ss_ HI0) (rr_ HO_5) (by decide)) hk (fun _ h => h.2)) (fun _ h => h.1)); replace HO130 := aS_ (Kd.R_mono (Kd.R_keep (IsS69.apart (show IsS69 w0 _ g s0_0 x1001_1 x1002_1 from ss_ HI0) (rr_ HO130) (by decide)) hk (fun _ h => h.2)) (fun _ h => h.1)); replace HK := aS_ (KeepBut.trans (hh_ HK) hk (.inl rfl)); replace HB := aS_ (hb); replace HI0 := aS_ (hi); (try clear hb); (try clear hk); (try clear hi)) | ((with_reducible refine gg_ ?_); refine gc_ 88 (some 26) Tryz.func88 #[.pointer (some ⟨g, 0, none⟩), .int .i64 t131] ?_; (with_reducible refine (spec_l1Cur_pick.calls g s0_0 t132 t133 t131 t134 t135 t136 w0 _ ?side1 ?side2 A13.out).mono ?_); (case side1 => exact ss_ HI0); (case side2 => exact bI_ HB HI0); rintro e w23 ⟨rfl, hi, hb, hk⟩; refine ⟨_, rfl, ?_⟩; replace HO_5 := aS_ (Kd.R_mono (Kd.R_keep (IsS69.apart (show IsS69 w0 _ g s0_0 t132 t133 from ss_ HI0) (rr_ HO_5) (by decide)) hk (fun _ h => h.2)) (fun _ h => h.1)); replace HO130 := aS_ (Kd.R_mono (Kd.R_keep (IsS69.apart (show IsS69 w0 _ g s0_0 t132 t133 from ss_ HI0) (rr_ HO130) (by decide)) hk (fun _ h => h.2)) (fun _ h => h.1)); replace HK := aS_ (KeepBut.trans (hh_ HK) hk (.inl rfl)); replace HB := aS_ (hb); replace HI0 := aS_ (hi); (try clear hb); (try clear hk); (try clear hi); obtain ⟨Ao24, co24, eo24⟩ := Kd.R_slice HO_5.out; subst eo24) | ((with_reducible refine gg_ ?_); refine gc_ 67 (some 29) Tryz.func67 #[.slice Ao24 x5_1.length co24, .int .i64 t134] ?_; (with_reducible refine (spec_l1Has.calls k1 _ _ x5_1 t134 true _ ?side1 ?side2 A14.out).mono ?_); (case side1 => exact cR_ HO_5); (case side2 => exact (Kd.R_reads' HO_5.out).2.1); rintro e w' ⟨rfl, ⟨nd, rfl⟩⟩; refine ⟨_, rfl, ?_⟩) | (go_at_call 54; (with_reducible refine (spec_l1Cur_one.calls g s0_0 t135 t136 20 true t139 t140 w0 _ ?side1 ?side2 A16.out).mono ?_); (case side1 => exact ss_ HI0); (case side2 => exact bI_ HB HI0); rintro e w25 ⟨rfl, hi, hb, hk⟩; replace HO_5 := aS_ (Kd.R_mono (Kd.R_keep (IsS69.apart (show IsS69 w0 _ g s0_0 t135 t136 from ss_ HI0) (rr_ HO_5) (by decide)) hk (fun _ h => h.2)) (fun _ h => h.1)); replace HO130 := aS_ (Kd.R_mono (Kd.R_keep (IsS69.apart (show IsS69 w0 _ g s0_0 t135 t136 from ss_ HI0) (rr_ HO130) (by decide)) hk (fun _ h => h.2)) (fun _ h => h.1)); replace HK := aS_ (KeepBut.trans (hh_ HK) hk (.inl rfl)); replace HB := aS_ (hb); replace HI0 := aS_ (hi); (try clear hb); (try clear hk); (try clear hi)) | ((with_reducible refine gate_builtin (b := .append) (xs := #[.tmp 35, .tmp 37]) rfl ?_); at_builtin; refine Kd.R_append (Kd.int .i64) w.heap.size rfl (.tmp 35) (.tmp 37) 24 3 (.int .i64 0) 8 rfl Tryz.underlying24 info3 rfl (by decide) (by omega) (.slice Ao24 x5_1.length co24) x5_1 t134 [.int .i64 t134] (fun k_ => some k_ ≠ (.slice Ao21 y128.length co21 : Value).ownBlock) (fun _ => False) rfl rfl ?aP (fun _ hk => hk.elim) ?aF ?aO (Below.refl _ _) ?aS ?aL ?_; (case aP => exact rfl); (case aF => exact (fun k_ hk => Kd.fresh' (Kd.R_lt (rr_ HO130)) k_ hk)); (case aO => exact (by (with_reducible repeat (first | apply rA_ | apply rN_ | apply rD_)); exact Kd.R_mono HO_5.out (fun _ hk => hk.2))); (case aS => exact (keep_size (w := w) (g := g) (row := none) (hh_ HK))); (case aL => have := LMc18.out; omega); intro v142 w26 ho hb hg hat; rw [← Ny141.out] at ho; replace HO130 := aS_ (Kd.R_after (ok := (fun _ => True)) (rr_ HO130) hg hat); replace HB := aS_ (below_weaken (bI_ HB HI0) HL.out hb); replace HI0 := aS_ (IsS69.grown (ss_ HI0) hg (IsS69.own_ne HI0.out HO_5.out (by decide))); replace HK := aS_ (KeepBut.trans (hh_ HK) (KeepBut.of_grown hg g) (Kd.R_base2 HO_5.out)); have HO143 := aS_ (ho); clear HO_5; clear ho hb hg hat))
    go_roundg k1
    case measure => have := HK1.out; omega
    case rel => exact ⟨(y141), (wrap64 (x6_1 - 1)), (t139), (t140), sR_, H', ⟨by have := HK1.out; omega⟩, ⟨by (with_reducible repeat (first | apply rA_ | apply rN_ | apply rD_)); exact Kd.R_mono HO143.out (fun _ hk => trivial)⟩, ⟨ss_ HI0⟩, ⟨hh_ HK⟩, ⟨bI_ HB HI0⟩⟩
   have H' := aS_ H
   clear H
   go_wp2_with (first | ((with_reducible refine gate_dst (N := 24) rfl ?_); refine Kd.R_lit (Kd.int .i64) _ 3 ?hg (N := 24) ?hd (xs := ([12, 40, 1000] : List Int)) (inner := [.int .i64 12, .int .i64 40, .int .i64 1000]) (ok := fun _ => True) (okp := fun _ => True) ?hr ?hp (fun _ hk => hk) trivial (Below.refl _ _) (Nat.le_refl _) (by simp) ?_; (case hd => rfl); (case hg => rfl); (case hr => first | (go_simp; done) | (go_simp; rfl)); (case hp => exact (Reps.one (show Kd.M (Kd.int .i64) _ _ _ 12 [.int .i64 12] from rfl) (Reps.one (show Kd.M (Kd.int .i64) _ _ _ 40 [.int .i64 40] from rfl) (Reps.one (show Kd.M (Kd.int .i64) _ _ _ 1000 [.int .i64 1000] from rfl) (Reps.none _ _))))); intro v129 w27 ho28 hb hg_ hnew_; clear hg_ hnew_; (first | rw [← Ny128.out] at ho28 | (simp only [Int.reduceToNat] at ho28; rw [← Ny128.out] at ho28)); have HO130 := aS_ (Kd.R_lower (Kd.R_new' ho28 (Kd.R_lt (rr_ HO_5))) (keep_size (w := w) (g := g) (row := none) (hh_ HK))); replace HO_5 := aS_ (Kd.R_elder' (rr_ HO_5) (Kd.R_base ho28) hb); replace HK := aS_ (KeepBut.trans (hh_ HK) (KeepBut.of_below hb g none) (.inl rfl)); replace HB := aS_ (below_step (bI_ HB HI0) hb); replace HI0 := aS_ (IsS69.below (ss_ HI0) hb); clear hb ho28; obtain ⟨Ao29, co29, eo29⟩ := Kd.R_slice HO130.out; subst eo29) | ((with_reducible refine gg_ ?_); refine gc_ 59 (some 25) Tryz.func59 #[.pointer (some ⟨g, 0, none⟩), .slice Ao29 y128.length co29] ?_; (with_reducible refine (spec_l1Cur_among.calls g s0_0 x1001_1 x1002_1 _ _ y128 t131 t132 t133 w0 _ ?side1 ?side2 ?side3 ?side4 ?side5 A12.out).mono ?_); (case side1 => exact ss_ HI0); (case side2 => exact bI_ HB HI0); (case side3 => exact cR_ HO130); (case side4 => exact (Kd.R_reads' HO130.out).2.1); (case side5 => exact far_slice (IsS69.own_ne HI0.out HO130.out (by decide))); rintro e w30 ⟨rfl, hi, hb, hk⟩; refine ⟨_, rfl, ?_⟩; replace HO_5 := aS_ (Kd.R_mono (Kd.R_keep (IsS69.apart (show IsS69 w0 _ g s0_0 x1001_1 x1002_1 from ss_ HI0) (rr_ HO_5) (by decide)) hk (fun _ h => h.2)) (fun _ h => h.1)); replace HO130 := aS_ (Kd.R_mono (Kd.R_keep (IsS69.apart (show IsS69 w0 _ g s0_0 x1001_1 x1002_1 from ss_ HI0) (rr_ HO130) (by decide)) hk (fun _ h => h.2)) (fun _ h => h.1)); replace HK := aS_ (KeepBut.trans (hh_ HK) hk (.inl rfl)); replace HB := aS_ (hb); replace HI0 := aS_ (hi); (try clear hb); (try clear hk); (try clear hi)) | ((with_reducible refine gg_ ?_); refine gc_ 88 (some 26) Tryz.func88 #[.pointer (some ⟨g, 0, none⟩), .int .i64 t131] ?_; (with_reducible refine (spec_l1Cur_pick.calls g s0_0 t132 t133 t131 t134 t135 t136 w0 _ ?side1 ?side2 A13.out).mono ?_); (case side1 => exact ss_ HI0); (case side2 => exact bI_ HB HI0); rintro e w31 ⟨rfl, hi, hb, hk⟩; refine ⟨_, rfl, ?_⟩; replace HO_5 := aS_ (Kd.R_mono (Kd.R_keep (IsS69.apart (show IsS69 w0 _ g s0_0 t132 t133 from ss_ HI0) (rr_ HO_5) (by decide)) hk (fun _ h => h.2)) (fun _ h => h.1)); replace HO130 := aS_ (Kd.R_mono (Kd.R_keep (IsS69.apart (show IsS69 w0 _ g s0_0 t132 t133 from ss_ HI0) (rr_ HO130) (by decide)) hk (fun _ h => h.2)) (fun _ h => h.1)); replace HK := aS_ (KeepBut.trans (hh_ HK) hk (.inl rfl)); replace HB := aS_ (hb); replace HI0 := aS_ (hi); (try clear hb); (try clear hk); (try clear hi); obtain ⟨Ao32, co32, eo32⟩ := Kd.R_slice HO_5.out; subst eo32) | ((with_reducible refine gg_ ?_); refine gc_ 67 (some 29) Tryz.func67 #[.slice Ao32 x5_1.length co32, .int .i64 t134] ?_; (with_reducible refine (spec_l1Has.calls k1 _ _ x5_1 t134 true _ ?side1 ?side2 A14.out).mono ?_); (case side1 => exact cR_ HO_5); (case side2 => exact (Kd.R_reads' HO_5.out).2.1); rintro e w' ⟨rfl, ⟨nd, rfl⟩⟩; refine ⟨_, rfl, ?_⟩) | (go_at_call 54; (with_reducible refine (spec_l1Cur_one.calls g s0_0 t135 t136 20 false t139 t140 w0 _ ?side1 ?side2 A16.out).mono ?_); (case side1 => exact ss_ HI0); (case side2 => exact bI_ HB HI0); rintro e w33 ⟨rfl, hi, hb, hk⟩; replace HO_5 := aS_ (Kd.R_mono (Kd.R_keep (IsS69.apart (show IsS69 w0 _ g s0_0 t135 t136 from ss_ HI0) (rr_ HO_5) (by decide)) hk (fun _ h => h.2)) (fun _ h => h.1)); replace HO130 := aS_ (Kd.R_mono (Kd.R_keep (IsS69.apart (show IsS69 w0 _ g s0_0 t135 t136 from ss_ HI0) (rr_ HO130) (by decide)) hk (fun _ h => h.2)) (fun _ h => h.1)); replace HK := aS_ (KeepBut.trans (hh_ HK) hk (.inl rfl)); replace HB := aS_ (hb); replace HI0 := aS_ (hi); (try clear hb); (try clear hk); (try clear hi)))
   go_roundg k1
   case measure => have := HK1.out; omega
   case rel => exact ⟨(x5_1), (wrap64 (x6_1 - 1)), (t139), (t140), sR_, H', ⟨by have := HK1.out; omega⟩, ⟨by (with_reducible repeat (first | apply rA_ | apply rN_ | apply rD_)); exact Kd.R_mono HO_5.out (fun _ hk => trivial)⟩, ⟨ss_ HI0⟩, ⟨hh_ HK⟩, ⟨bI_ HB HI0⟩⟩
  replace H := jp_ H; obtain ⟨c34, H⟩ := H
  have LMc34 := aS_ c34
  clear c34
  obtain ⟨y144, hy144⟩ : ∃ y_ : List Int, y_ = (x5_1 ++ [t134]) := ⟨_, rfl⟩
  replace H : (spec_l1Cur_keys.l0 k1 (wrap64 (2 + t122)) y144 (wrap64 (x6_1 - 1)) s0_0 t135 t136) = some (r1, r2, r3, r4) := yH_ hy144 H
  have Ny144 := aS_ hy144
  clear hy144
  have H' := aS_ H
  clear H
  go_wp2_with (first | ((with_reducible refine gate_dst (N := 24) rfl ?_); refine Kd.R_lit (Kd.int .i64) _ 3 ?hg (N := 24) ?hd (xs := ([12, 40, 1000] : List Int)) (inner := [.int .i64 12, .int .i64 40, .int .i64 1000]) (ok := fun _ => True) (okp := fun _ => True) ?hr ?hp (fun _ hk => hk) trivial (Below.refl _ _) (Nat.le_refl _) (by simp) ?_; (case hd => rfl); (case hg => rfl); (case hr => first | (go_simp; done) | (go_simp; rfl)); (case hp => exact (Reps.one (show Kd.M (Kd.int .i64) _ _ _ 12 [.int .i64 12] from rfl) (Reps.one (show Kd.M (Kd.int .i64) _ _ _ 40 [.int .i64 40] from rfl) (Reps.one (show Kd.M (Kd.int .i64) _ _ _ 1000 [.int .i64 1000] from rfl) (Reps.none _ _))))); intro v129 w35 ho36 hb hg_ hnew_; clear hg_ hnew_; (first | rw [← Ny128.out] at ho36 | (simp only [Int.reduceToNat] at ho36; rw [← Ny128.out] at ho36)); have HO130 := aS_ (Kd.R_lower (Kd.R_new' ho36 (Kd.R_lt (rr_ HO_5))) (keep_size (w := w) (g := g) (row := none) (hh_ HK))); replace HO_5 := aS_ (Kd.R_elder' (rr_ HO_5) (Kd.R_base ho36) hb); replace HK := aS_ (KeepBut.trans (hh_ HK) (KeepBut.of_below hb g none) (.inl rfl)); replace HB := aS_ (below_step (bI_ HB HI0) hb); replace HI0 := aS_ (IsS69.below (ss_ HI0) hb); clear hb ho36; obtain ⟨Ao37, co37, eo37⟩ := Kd.R_slice HO130.out; subst eo37) | ((with_reducible refine gg_ ?_); refine gc_ 59 (some 25) Tryz.func59 #[.pointer (some ⟨g, 0, none⟩), .slice Ao37 y128.length co37] ?_; (with_reducible refine (spec_l1Cur_among.calls g s0_0 x1001_1 x1002_1 _ _ y128 t131 t132 t133 w0 _ ?side1 ?side2 ?side3 ?side4 ?side5 A12.out).mono ?_); (case side1 => exact ss_ HI0); (case side2 => exact bI_ HB HI0); (case side3 => exact cR_ HO130); (case side4 => exact (Kd.R_reads' HO130.out).2.1); (case side5 => exact far_slice (IsS69.own_ne HI0.out HO130.out (by decide))); rintro e w38 ⟨rfl, hi, hb, hk⟩; refine ⟨_, rfl, ?_⟩; replace HO_5 := aS_ (Kd.R_mono (Kd.R_keep (IsS69.apart (show IsS69 w0 _ g s0_0 x1001_1 x1002_1 from ss_ HI0) (rr_ HO_5) (by decide)) hk (fun _ h => h.2)) (fun _ h => h.1)); replace HO130 := aS_ (Kd.R_mono (Kd.R_keep (IsS69.apart (show IsS69 w0 _ g s0_0 x1001_1 x1002_1 from ss_ HI0) (rr_ HO130) (by decide)) hk (fun _ h => h.2)) (fun _ h => h.1)); replace HK := aS_ (KeepBut.trans (hh_ HK) hk (.inl rfl)); replace HB := aS_ (hb); replace HI0 := aS_ (hi); (try clear hb); (try clear hk); (try clear hi)) | ((with_reducible refine gg_ ?_); refine gc_ 88 (some 26) Tryz.func88 #[.pointer (some ⟨g, 0, none⟩), .int .i64 t131] ?_; (with_reducible refine (spec_l1Cur_pick.calls g s0_0 t132 t133 t131 t134 t135 t136 w0 _ ?side1 ?side2 A13.out).mono ?_); (case side1 => exact ss_ HI0); (case side2 => exact bI_ HB HI0); rintro e w39 ⟨rfl, hi, hb, hk⟩; refine ⟨_, rfl, ?_⟩; replace HO_5 := aS_ (Kd.R_mono (Kd.R_keep (IsS69.apart (show IsS69 w0 _ g s0_0 t132 t133 from ss_ HI0) (rr_ HO_5) (by decide)) hk (fun _ h => h.2)) (fun _ h => h.1)); replace HO130 := aS_ (Kd.R_mono (Kd.R_keep (IsS69.apart (show IsS69 w0 _ g s0_0 t132 t133 from ss_ HI0) (rr_ HO130) (by decide)) hk (fun _ h => h.2)) (fun _ h => h.1)); replace HK := aS_ (KeepBut.trans (hh_ HK) hk (.inl rfl)); replace HB := aS_ (hb); replace HI0 := aS_ (hi); (try clear hb); (try clear hk); (try clear hi); obtain ⟨Ao40, co40, eo40⟩ := Kd.R_slice HO_5.out; subst eo40) | ((with_reducible refine gg_ ?_); refine gc_ 67 (some 29) Tryz.func67 #[.slice Ao40 x5_1.length co40, .int .i64 t134] ?_; (with_reducible refine (spec_l1Has.calls k1 _ _ x5_1 t134 false _ ?side1 ?side2 A14.out).mono ?_); (case side1 => exact cR_ HO_5); (case side2 => exact (Kd.R_reads' HO_5.out).2.1); rintro e w' ⟨rfl, ⟨nd, rfl⟩⟩; refine ⟨_, rfl, ?_⟩) | ((with_reducible refine gate_builtin (b := .append) (xs := #[.tmp 35, .tmp 37]) rfl ?_); at_builtin; refine Kd.R_append (Kd.int .i64) w.heap.size rfl (.tmp 35) (.tmp 37) 24 3 (.int .i64 0) 8 rfl Tryz.underlying24 info3 rfl (by decide) (by omega) (.slice Ao40 x5_1.length co40) x5_1 t134 [.int .i64 t134] (fun k_ => some k_ ≠ (.slice Ao37 y128.length co37 : Value).ownBlock) (fun _ => False) rfl rfl ?aP (fun _ hk => hk.elim) ?aF ?aO (Below.refl _ _) ?aS ?aL ?_; (case aP => exact rfl); (case aF => exact (fun k_ hk => Kd.fresh' (Kd.R_lt (rr_ HO130)) k_ hk)); (case aO => exact (by (with_reducible repeat (first | apply rA_ | apply rN_ | apply rD_)); exact Kd.R_mono HO_5.out (fun _ hk => hk.2))); (case aS => exact (keep_size (w := w) (g := g) (row := none) (hh_ HK))); (case aL => have := LMc34.out; omega); intro v145 w41 ho hb hg hat; rw [← Ny144.out] at ho; replace HO130 := aS_ (Kd.R_after (ok := (fun _ => True)) (rr_ HO130) hg hat); replace HB := aS_ (below_weaken (bI_ HB HI0) HL.out hb); replace HI0 := aS_ (IsS69.grown (ss_ HI0) hg (IsS69.own_ne HI0.out HO_5.out (by decide))); replace HK := aS_ (KeepBut.trans (hh_ HK) (KeepBut.of_grown hg g) (Kd.R_base2 HO_5.out)); have HO146 := aS_ (ho); clear HO_5; clear ho hb hg hat))
  go_roundg k1
  case measure => have := HK1.out; omega
  case rel => exact ⟨(y144), (wrap64 (x6_1 - 1)), (t135), (t136), sR_, H', ⟨by have := HK1.out; omega⟩, ⟨by (with_reducible repeat (first | apply rA_ | apply rN_ | apply rD_)); exact Kd.R_mono HO146.out (fun _ hk => trivial)⟩, ⟨ss_ HI0⟩, ⟨hh_ HK⟩, ⟨bI_ HB HI0⟩⟩
 replace H := bs_ H; obtain ⟨⟨t147, t148, t149⟩, A42, H⟩ := H
 replace H := iq_ H; rcases H with ⟨c43b0, c43b1, H⟩ | ⟨c43b0, c43b1, c43, H⟩
 ·obtain ⟨y150, hy150⟩ : ∃ y_ : List Int, y_ = (([(-1), 999, 1000] : List Int)) := ⟨_, rfl⟩
  replace H : ((spec_l1Cur_among.f s0_0 t148 t149 y150).bind fun bt153 => (if x5_1.length < 17592186044416 then (some ((wrap64 (2 + t122)), (x5_1 ++ [bt153.1]), bt153.2.1, bt153.2.2)) else (none))) = some (r1, r2, r3, r4) := yH_ hy150 H
  have Ny150 := aS_ hy150
  clear hy150
  replace H := bs_ H; obtain ⟨⟨t153, t154, t155⟩, A44, H⟩ := H
  replace H := jp_ H; obtain ⟨c45, H⟩ := H
  have LMc45 := aS_ c45
  clear c45
  obtain ⟨y156, hy156⟩ : ∃ y_ : List Int, y_ = (x5_1 ++ [t153]) := ⟨_, rfl⟩
  replace H : (some ((wrap64 (2 + t122)), y156, t154, t155)) = some (r1, r2, r3, r4) := yH_ hy156 H
  have Ny156 := aS_ hy156
  clear hy156
  simp only [Option.some.injEq, Prod.mk.injEq] at H
  obtain ⟨rfl, rfl, rfl, rfl⟩ := H
  go_wp2_with (first | ((with_reducible refine gg_ ?_); refine gc_ 88 (some 40) Tryz.func88 #[.pointer (some ⟨g, 0, none⟩), .int .i64 24] ?_; (with_reducible refine (spec_l1Cur_pick.calls g s0_0 x1001_1 x1002_1 24 t147 t148 t149 w0 _ ?side1 ?side2 A42.out).mono ?_); (case side1 => exact ss_ HI0); (case side2 => exact bI_ HB HI0); rintro e w46 ⟨rfl, hi, hb, hk⟩; refine ⟨_, rfl, ?_⟩; replace HO_5 := aS_ (Kd.R_mono (Kd.R_keep (IsS69.apart (show IsS69 w0 _ g s0_0 x1001_1 x1002_1 from ss_ HI0) (rr_ HO_5) (by decide)) hk (fun _ h => h.2)) (fun _ h => h.1)); replace HK := aS_ (KeepBut.trans (hh_ HK) hk (.inl rfl)); replace HB := aS_ (hb); replace HI0 := aS_ (hi); (try clear hb); (try clear hk); (try clear hi)) | ((with_reducible refine gate_dst (N := 45) rfl ?_); refine Kd.R_lit (Kd.int .i64) _ 3 ?hg (N := 45) ?hd (xs := ([(-1), 999, 1000] : List Int)) (inner := [.int .i64 (-1), .int .i64 999, .int .i64 1000]) (ok := fun _ => True) (okp := fun _ => True) ?hr ?hp (fun _ hk => hk) trivial (Below.refl _ _) (Nat.le_refl _) (by simp) ?_; (case hd => rfl); (case hg => rfl); (case hr => first | (go_simp; done) | (go_simp; rfl)); (case hp => exact (Reps.one (show Kd.M (Kd.int .i64) _ _ _ (-1) [.int .i64 (-1)] from rfl) (Reps.one (show Kd.M (Kd.int .i64) _ _ _ 999 [.int .i64 999] from rfl) (Reps.one (show Kd.M (Kd.int .i64) _ _ _ 1000 [.int .i64 1000] from rfl) (Reps.none _ _))))); intro v151 w47 ho48 hb hg_ hnew_; clear hg_ hnew_; (first | rw [← Ny150.out] at ho48 | (simp only [Int.reduceToNat] at ho48; rw [← Ny150.out] at ho48)); have HO152 := aS_ (Kd.R_lower (Kd.R_new' ho48 (Kd.R_lt (rr_ HO_5))) (keep_size (w := w) (g := g) (row := none) (hh_ HK))); replace HO_5 := aS_ (Kd.R_elder' (rr_ HO_5) (Kd.R_base ho48) hb); replace HK := aS_ (KeepBut.trans (hh_ HK) (KeepBut.of_below hb g none) (.inl rfl)); replace HB := aS_ (below_step (bI_ HB HI0) hb); replace HI0 := aS_ (IsS69.below (ss_ HI0) hb); clear hb ho48; obtain ⟨Ao49, co49, eo49⟩ := Kd.R_slice HO152.out; subst eo49) | ((with_reducible refine gg_ ?_); refine gc_ 59 (some 46) Tryz.func59 #[.pointer (some ⟨g, 0, none⟩), .slice Ao49 y150.length co49] ?_; (with_reducible refine (spec_l1Cur_among.calls g s0_0 t148 t149 _ _ y150 t153 t154 t155 w0 _ ?side1 ?side2 ?side3 ?side4 ?side5 A44.out).mono ?_); (case side1 => exact ss_ HI0); (case side2 => exact bI_ HB HI0); (case side3 => exact cR_ HO152); (case side4 => exact (Kd.R_reads' HO152.out).2.1); (case side5 => exact far_slice (IsS69.own_ne HI0.out HO152.out (by decide))); rintro e w50 ⟨rfl, hi, hb, hk⟩; refine ⟨_, rfl, ?_⟩; replace HO_5 := aS_ (Kd.R_mono (Kd.R_keep (IsS69.apart (show IsS69 w0 _ g s0_0 t148 t149 from ss_ HI0) (rr_ HO_5) (by decide)) hk (fun _ h => h.2)) (fun _ h => h.1)); replace HO152 := aS_ (Kd.R_mono (Kd.R_keep (IsS69.apart (show IsS69 w0 _ g s0_0 t148 t149 from ss_ HI0) (rr_ HO152) (by decide)) hk (fun _ h => h.2)) (fun _ h => h.1)); replace HK := aS_ (KeepBut.trans (hh_ HK) hk (.inl rfl)); replace HB := aS_ (hb); replace HI0 := aS_ (hi); (try clear hb); (try clear hk); (try clear hi)) | ((with_reducible refine gate_builtin (b := .append) (xs := #[.tmp 43, .tmp 47]) rfl ?_); at_builtin; refine Kd.R_append (Kd.int .i64) w.heap.size rfl (.tmp 43) (.tmp 47) 24 3 (.int .i64 0) 8 rfl Tryz.underlying24 info3 rfl (by decide) (by omega) u5 x5_1 t153 [.int .i64 t153] (fun k_ => some k_ ≠ (.slice Ao49 y150.length co49 : Value).ownBlock) (fun _ => False) rfl rfl ?aP (fun _ hk => hk.elim) ?aF ?aO (Below.refl _ _) ?aS ?aL ?_; (case aP => exact rfl); (case aF => exact (fun k_ hk => Kd.fresh' (Kd.R_lt (rr_ HO152)) k_ hk)); (case aO => exact (by (with_reducible repeat (first | apply rA_ | apply rN_ | apply rD_)); exact Kd.R_mono HO_5.out (fun _ hk => hk.2))); (case aS => exact (keep_size (w := w) (g := g) (row := none) (hh_ HK))); (case aL => have := LMc45.out; omega); intro v157 w51 ho hb hg hat; rw [← Ny156.out] at ho; replace HO152 := aS_ (Kd.R_after (ok := (fun _ => True)) (rr_ HO152) hg hat); replace HB := aS_ (below_weaken (bI_ HB HI0) HL.out hb); replace HI0 := aS_ (IsS69.grown (ss_ HI0) hg (IsS69.own_ne HI0.out HO_5.out (by decide))); replace HK := aS_ (KeepBut.trans (hh_ HK) (KeepBut.of_grown hg g) (Kd.R_base2 HO_5.out)); have HO158 := aS_ (ho); clear HO_5; clear ho hb hg hat))
  go_ret2
  exact ⟨_, by first | rfl | (simp [errW_none, errW_some] <;> rfl) | (simp [*, errW_none, errW_some] <;> rfl), by (with_reducible repeat (first | apply rA_ | apply rN_ | apply rD_)); exact Kd.R_mono HO158.out (fun _ hk => trivial), ss_ HI0, bI_ HB HI0, hh_ HK⟩
 replace H := iq_ H; rcases H with ⟨c52b0, c52b1, H⟩ | ⟨c52b0, c52b1, c52, H⟩
 ·obtain ⟨y159, hy159⟩ : ∃ y_ : List Int, y_ = (([0, 1, (-1), 12, 13] : List Int)) := ⟨_, rfl⟩
  replace H : ((spec_l1Cur_among.f s0_0 t148 t149 y159).bind fun bt162 => (some (bt162.1, x5_1, bt162.2.1, bt162.2.2))) = some (r1, r2, r3, r4) := yH_ hy159 H
  have Ny159 := aS_ hy159
  clear hy159
  replace H := bs_ H; obtain ⟨⟨t162, t163, t164⟩, A53, H⟩ := H
  simp only [Option.some.injEq, Prod.mk.injEq] at H
  obtain ⟨rfl, rfl, rfl, rfl⟩ := H
  go_wp2_with (first | ((with_reducible refine gg_ ?_); refine gc_ 88 (some 40) Tryz.func88 #[.pointer (some ⟨g, 0, none⟩), .int .i64 24] ?_; (with_reducible refine (spec_l1Cur_pick.calls g s0_0 x1001_1 x1002_1 24 t147 t148 t149 w0 _ ?side1 ?side2 A42.out).mono ?_); (case side1 => exact ss_ HI0); (case side2 => exact bI_ HB HI0); rintro e w54 ⟨rfl, hi, hb, hk⟩; refine ⟨_, rfl, ?_⟩; replace HO_5 := aS_ (Kd.R_mono (Kd.R_keep (IsS69.apart (show IsS69 w0 _ g s0_0 x1001_1 x1002_1 from ss_ HI0) (rr_ HO_5) (by decide)) hk (fun _ h => h.2)) (fun _ h => h.1)); replace HK := aS_ (KeepBut.trans (hh_ HK) hk (.inl rfl)); replace HB := aS_ (hb); replace HI0 := aS_ (hi); (try clear hb); (try clear hk); (try clear hi)) | ((with_reducible refine gate_dst (N := 52) rfl ?_); refine Kd.R_lit (Kd.int .i64) _ 3 ?hg (N := 52) ?hd (xs := ([0, 1, (-1), 12, 13] : List Int)) (inner := [.int .i64 0, .int .i64 1, .int .i64 (-1), .int .i64 12, .int .i64 13]) (ok := fun _ => True) (okp := fun _ => True) ?hr ?hp (fun _ hk => hk) trivial (Below.refl _ _) (Nat.le_refl _) (by simp) ?_; (case hd => rfl); (case hg => rfl); (case hr => first | (go_simp; done) | (go_simp; rfl)); (case hp => exact (Reps.one (show Kd.M (Kd.int .i64) _ _ _ 0 [.int .i64 0] from rfl) (Reps.one (show Kd.M (Kd.int .i64) _ _ _ 1 [.int .i64 1] from rfl) (Reps.one (show Kd.M (Kd.int .i64) _ _ _ (-1) [.int .i64 (-1)] from rfl) (Reps.one (show Kd.M (Kd.int .i64) _ _ _ 12 [.int .i64 12] from rfl) (Reps.one (show Kd.M (Kd.int .i64) _ _ _ 13 [.int .i64 13] from rfl) (Reps.none _ _))))))); intro v160 w55 ho56 hb hg_ hnew_; clear hg_ hnew_; (first | rw [← Ny159.out] at ho56 | (simp only [Int.reduceToNat] at ho56; rw [← Ny159.out] at ho56)); have HO161 := aS_ (Kd.R_lower (Kd.R_new' ho56 (Kd.R_lt (rr_ HO_5))) (keep_size (w := w) (g := g) (row := none) (hh_ HK))); replace HO_5 := aS_ (Kd.R_elder' (rr_ HO_5) (Kd.R_base ho56) hb); replace HK := aS_ (KeepBut.trans (hh_ HK) (KeepBut.of_below hb g none) (.inl rfl)); replace HB := aS_ (below_step (bI_ HB HI0) hb); replace HI0 := aS_ (IsS69.below (ss_ HI0) hb); clear hb ho56; obtain ⟨Ao57, co57, eo57⟩ := Kd.R_slice HO161.out; subst eo57) | ((with_reducible refine gg_ ?_); refine gc_ 59 (some 53) Tryz.func59 #[.pointer (some ⟨g, 0, none⟩), .slice Ao57 y159.length co57] ?_; (with_reducible refine (spec_l1Cur_among.calls g s0_0 t148 t149 _ _ y159 t162 t163 t164 w0 _ ?side1 ?side2 ?side3 ?side4 ?side5 A53.out).mono ?_); (case side1 => exact ss_ HI0); (case side2 => exact bI_ HB HI0); (case side3 => exact cR_ HO161); (case side4 => exact (Kd.R_reads' HO161.out).2.1); (case side5 => exact far_slice (IsS69.own_ne HI0.out HO161.out (by decide))); rintro e w58 ⟨rfl, hi, hb, hk⟩; refine ⟨_, rfl, ?_⟩; replace HO_5 := aS_ (Kd.R_mono (Kd.R_keep (IsS69.apart (show IsS69 w0 _ g s0_0 t148 t149 from ss_ HI0) (rr_ HO_5) (by decide)) hk (fun _ h => h.2)) (fun _ h => h.1)); replace HO161 := aS_ (Kd.R_mono (Kd.R_keep (IsS69.apart (show IsS69 w0 _ g s0_0 t148 t149 from ss_ HI0) (rr_ HO161) (by decide)) hk (fun _ h => h.2)) (fun _ h => h.1)); replace HK := aS_ (KeepBut.trans (hh_ HK) hk (.inl rfl)); replace HB := aS_ (hb); replace HI0 := aS_ (hi); (try clear hb); (try clear hk); (try clear hi)))
  go_ret2
  exact ⟨_, by first | rfl | (simp [errW_none, errW_some] <;> rfl) | (simp [*, errW_none, errW_some] <;> rfl), by (with_reducible repeat (first | apply rA_ | apply rN_ | apply rD_)); exact Kd.R_mono HO_5.out (fun _ hk => trivial), ss_ HI0, bI_ HB HI0, hh_ HK⟩
 simp only [Option.some.injEq, Prod.mk.injEq] at H
 obtain ⟨rfl, rfl, rfl, rfl⟩ := H
 go_wp2_with (first | ((with_reducible refine gg_ ?_); refine gc_ 88 (some 40) Tryz.func88 #[.pointer (some ⟨g, 0, none⟩), .int .i64 24] ?_; (with_reducible refine (spec_l1Cur_pick.calls g s0_0 x1001_1 x1002_1 24 t147 t148 t149 w0 _ ?side1 ?side2 A42.out).mono ?_); (case side1 => exact ss_ HI0); (case side2 => exact bI_ HB HI0); rintro e w59 ⟨rfl, hi, hb, hk⟩; refine ⟨_, rfl, ?_⟩; replace HO_5 := aS_ (Kd.R_mono (Kd.R_keep (IsS69.apart (show IsS69 w0 _ g s0_0 x1001_1 x1002_1 from ss_ HI0) (rr_ HO_5) (by decide)) hk (fun _ h => h.2)) (fun _ h => h.1)); replace HK := aS_ (KeepBut.trans (hh_ HK) hk (.inl rfl)); replace HB := aS_ (hb); replace HI0 := aS_ (hi); (try clear hb); (try clear hk); (try clear hi)))
 go_ret2
 exact ⟨_, by first | rfl | (simp [errW_none, errW_some] <;> rfl) | (simp [*, errW_none, errW_some] <;> rfl), rr_ HO_5, ss_ HI0, bI_ HB HI0, hh_ HK⟩
/-! ### spec_l1In: function 40 -/
def spec_l1In.f (a0 : Int) (a1 : Int) (a2 : Int) : Option (Bool) := if a0 ≥ a1 then (some (decide (a0 ≤ a2))) else (some false)
set_option maxHeartbeats 8000000 in
set_option maxRecDepth 100000 in
theorem spec_l1In.calls (a0 : Int) (a1 : Int) (a2 : Int) (r : Bool) (w : World) (h : spec_l1In.f a0 a1 a2 = some r) :
  Calls Tryz.prog 40 #[.int .i64 a0, .int .i64 a1, .int .i64 a2] w fun e w' => e = .returned (.bool r) ∧ Drawn0 w w' := by
 have H : (if a0 ≥ a1 then (some (decide (a0 ≤ a2))) else (some false)) = some r := h
 clear h
 replace H := id_ H; rcases H with ⟨c4b0, H⟩ | ⟨c4b0, H⟩
 ·obtain rfl := Option.some.inj H
  go_enter Tryz.func40, Tryz.ntmps40
  go_wp2
  go_ret
  exact ⟨sR_, by repeat (first | exact Drawn0.refl _ | apply Drawn0.step)⟩
 obtain rfl := Option.some.inj H
 go_enter Tryz.func40, Tryz.ntmps40
 go_wp2
 go_ret
 exact ⟨sR_, by repeat (first | exact Drawn0.refl _ | apply Drawn0.step)⟩
/-! ### spec_prSize: function 61 -/
def spec_prSize.f (a0 : Int) : Option (Bool) := (spec_l1In.f a0 2 12).bind fun t165 => (some t165)
set_option maxHeartbeats 8000000 in
set_option maxRecDepth 100000 in
theorem spec_prSize.calls (a0 : Int) (r : Bool) (w : World) (h : spec_prSize.f a0 = some r) :
  Calls Tryz.prog 61 #[.int .i64 a0] w fun e w' => e = .returned (.bool r) ∧ Drawn0 w w' := by
 have H : ((spec_l1In.f a0 2 12).bind fun t165 => (some t165)) = some r := h
 clear h
 replace H := bs_ H; obtain ⟨t165, A2, H⟩ := H
 obtain rfl := Option.some.inj H
 go_enter Tryz.func61, Tryz.ntmps61
 go_wp2_with (first | ((with_reducible refine gg_ ?_); refine gc_ 40 (some 4) Tryz.func40 #[.int .i64 a0, .int .i64 2, .int .i64 12] ?_; (with_reducible refine (spec_l1In.calls a0 2 12 t165 _ A2.out).mono ?_); rintro e w' ⟨rfl, ⟨nd, rfl⟩⟩; refine ⟨_, rfl, ?_⟩))
 go_ret
 exact ⟨sR_, by repeat (first | exact Drawn0.refl _ | apply Drawn0.step)⟩
/-! ### spec_l1All: function 66 -/
def spec_l1All.l0 : Nat → Int → Int → List Int → Int → Int → Option (Bool)
 | 0, _, _, _, _, _ => none
 | k + 1, x1, x2, x9, x10, x11 => if x11 < x10 then (if 0 ≤ x11 then (if x11 < (x9.length : Int) then ((spec_l1In.f (rd x9 x11) x1 x2).bind fun t167 => (if t167 = true then (spec_l1All.l0 k x1 x2 x9 x10 (wrap64 (x11 + 1))) else (some false))) else (none)) else (none)) else (some true)
def spec_l1All.f (k : Nat) (l0 : List Int) (a1 : Int) (a2 : Int) : Option (Bool) := spec_l1All.l0 k a1 a2 l0 (l0.length : Int) 0
theorem spec_l1All.mono_l : ∀ k, (∀ y0 y1 y2 y3 y4, LeO (spec_l1All.l0 k y0 y1 y2 y3 y4) (spec_l1All.l0 (k + 1) y0 y1 y2 y3 y4))
 | 0 => fun _ _ _ _ _ r h => by simp [spec_l1All.l0] at h
 | k + 1 => by
  have ih0 := spec_l1All.mono_l k
  intro y0 y1 y2 y3 y4
  unfold spec_l1All.l0
  exact mo1_ ih0
theorem spec_l1All.mono : ∀ a0 a1 a2 k, LeO (spec_l1All.f k a0 a1 a2) (spec_l1All.f (k + 1) a0 a1 a2) := by
 intro a0 a1 a2 k
 have ih0 := spec_l1All.mono_l k
 unfold spec_l1All.f
 exact mo1_ ih0
set_option maxHeartbeats 8000000 in
set_option maxRecDepth 100000 in
theorem spec_l1All.calls (k : Nat) (A0 : Option Addr) (c0 : Nat) (l0 : List Int) (a1 : Int) (a2 : Int) (r : Bool) (w : World) (hr0 : Kd.C (Kd.int .i64) w A0 l0.length l0) (hc0 : l0.length ≤ c0) (h : spec_l1All.f k l0 a1 a2 = some r) :
  Calls Tryz.prog 66 #[.slice A0 l0.length c0, .int .i64 a1, .int .i64 a2] w fun e w' => e = .returned (.bool r) ∧ Drawn0 w w' := by
 have HR0 := aS_ hr0
 have HC0 := aS_ hc0
 clear hr0 hc0
 have H : (spec_l1All.l0 k a1 a2 l0 (l0.length : Int) 0) = some r := h
 clear h
 have H' := aS_ H
 clear H
 go_enter Tryz.func66, Tryz.ntmps66
 go_wp2
 go_loopg [11] k (fun kq v11 w' => ∃ (x11_1 : Int), v11 = .int .i64 x11_1 ∧ Aside0 (spec_l1All.l0 kq a1 a2 l0 (l0.length : Int) x11_1 = some r) ∧ Aside0 (kq ≤ k) ∧ Drawn0 w w')
 case atStart => exact ⟨(0), sR_, H', ⟨Nat.le_refl _⟩, by repeat (first | exact Drawn0.refl _ | apply Drawn0.step)⟩
 case round =>
 clear H'
 obtain ⟨x11_1, rfl, HA, HK1, ⟨m1, rfl⟩⟩ := hrel
 cases gk with
 | zero => exact absurd HA.out (by simp [spec_l1All.l0])
 | succ k1 =>
 have H := HA.out
 clear HA
 simp only [spec_l1All.l0] at H
 replace H := id_ H; rcases H with ⟨c4b0, H⟩ | ⟨c4b0, H⟩
 ·replace H := jd_ H; obtain ⟨c5b0, H⟩ := H
  replace H := jd_ H; obtain ⟨c6b0, H⟩ := H
  replace H := bs_ H; obtain ⟨t167, A7, H⟩ := H
  replace H := it_ H; rcases H with ⟨rfl, H⟩ | ⟨rfl, H⟩
  ·have H' := aS_ H
   clear H
   have p166 : 0 ≤ (x11_1 : Int) := of_decide_eq_true (by assumption)
   have q166 : x11_1 < (l0.length : Int) := of_decide_eq_true (by assumption)
   obtain ⟨ad166, e166, hx166_0⟩ := Kd.at_int HR0.out x11_1 p166 q166
   cases e166
   replace p166 := eq_true p166
   replace q166 := eq_true q166
   go_wp2_with (first | ((with_reducible refine gg_ ?_); refine gc_ 40 (some 18) Tryz.func40 #[.int .i64 (rd l0 x11_1), .int .i64 a1, .int .i64 a2] ?_; (with_reducible refine (spec_l1In.calls (rd l0 x11_1) a1 a2 true _ A7.out).mono ?_); rintro e w' ⟨rfl, ⟨nd, rfl⟩⟩; refine ⟨_, rfl, ?_⟩))
   go_roundg k1
   case measure => have := HK1.out; omega
   case rel => exact ⟨(wrap64 (x11_1 + 1)), sR_, H', ⟨by have := HK1.out; omega⟩, by repeat (first | exact Drawn0.refl _ | apply Drawn0.step)⟩
  obtain rfl := Option.some.inj H
  have p166 : 0 ≤ (x11_1 : Int) := of_decide_eq_true (by assumption)
  have q166 : x11_1 < (l0.length : Int) := of_decide_eq_true (by assumption)
  obtain ⟨ad166, e166, hx166_0⟩ := Kd.at_int HR0.out x11_1 p166 q166
  cases e166
  replace p166 := eq_true p166
  replace q166 := eq_true q166
  go_wp2_with (first | ((with_reducible refine gg_ ?_); refine gc_ 40 (some 18) Tryz.func40 #[.int .i64 (rd l0 x11_1), .int .i64 a1, .int .i64 a2] ?_; (with_reducible refine (spec_l1In.calls (rd l0 x11_1) a1 a2 false _ A7.out).mono ?_); rintro e w' ⟨rfl, ⟨nd, rfl⟩⟩; refine ⟨_, rfl, ?_⟩))
  go_ret
  exact ⟨sR_, by repeat (first | exact Drawn0.refl _ | apply Drawn0.step)⟩
 obtain rfl := Option.some.inj H
 go_wp2
 go_ret
 exact ⟨sR_, by repeat (first | exact Drawn0.refl _ | apply Drawn0.step)⟩
/-! ### spec_prKeys: function 85 -/
mutual
def spec_prKeys.j0 : Nat → List Int → Bool → Option (Bool)
 | 0, _, _ => none
 | k + 1, x1, x20 => if x20 = true then (some false) else (spec_prKeys.l0 k x1 x1 (x1.length : Int) 0)
def spec_prKeys.l0 : Nat → List Int → List Int → Int → Int → Option (Bool)
 | 0, _, _, _, _ => none
 | k + 1, x1, x21, x22, x23 => if x23 < x22 then (if 0 ≤ x23 then (if x23 < (x21.length : Int) then (if x23 ≤ (x1.length : Int) then ((spec_l1Has.f k (x1.take (x23 : Int).toNat) (rd x21 x23)).bind fun t172 => (if t172 = true then (some false) else (spec_prKeys.l0 k x1 x21 x22 (wrap64 (x23 + 1))))) else (none)) else (none)) else (none)) else (some true)
end
def spec_prKeys.f (k : Nat) (a0 : Int) (l1 : List Int) : Option (Bool) := (spec_prSize.f a0).bind fun t168 => (if t168 = true then (if (l1.length : Int) ≥ a0 then (spec_prKeys.j0 k l1 true) else ((spec_l1All.f k l1 0 999).bind fun t169 => (spec_prKeys.j0 k l1 (!t169)))) else (spec_prKeys.j0 k l1 true))
theorem spec_prKeys.mono_l : ∀ k, (∀ y0 y1, LeO (spec_prKeys.j0 k y0 y1) (spec_prKeys.j0 (k + 1) y0 y1)) ∧ (∀ y0 y1 y2 y3, LeO (spec_prKeys.l0 k y0 y1 y2 y3) (spec_prKeys.l0 (k + 1) y0 y1 y2 y3))
 | 0 => ⟨fun _ _ r h => by simp [spec_prKeys.j0] at h, fun _ _ _ _ r h => by simp [spec_prKeys.l0] at h⟩
 | k + 1 => by
  obtain ⟨ih0, ih1⟩ := spec_prKeys.mono_l k
  refine ⟨?_, ?_⟩
  ·intro y0 y1
   unfold spec_prKeys.j0
   exact mo4_ ih0 ih1 spec_l1All.mono spec_l1Has.mono
  intro y0 y1 y2 y3
  unfold spec_prKeys.l0
  exact mo4_ ih0 ih1 spec_l1All.mono spec_l1Has.mono
theorem spec_prKeys.mono : ∀ a0 a1 k, LeO (spec_prKeys.f k a0 a1) (spec_prKeys.f (k + 1) a0 a1) := by
 intro a0 a1 k
 obtain ⟨ih0, ih1⟩ := spec_prKeys.mono_l k
 unfold spec_prKeys.f
 exact mo4_ ih0 ih1 spec_l1All.mono spec_l1Has.mono
set_option maxHeartbeats 8000000 in
set_option maxRecDepth 100000 in
theorem spec_prKeys.calls (k : Nat) (a0 : Int) (A1 : Option Addr) (c1 : Nat) (l1 : List Int) (r : Bool) (w : World) (hr1 : Kd.C (Kd.int .i64) w A1 l1.length l1) (hc1 : l1.length ≤ c1) (h : spec_prKeys.f k a0 l1 = some r) :
  Calls Tryz.prog 85 #[.int .i64 a0, .slice A1 l1.length c1] w fun e w' => e = .returned (.bool r) ∧ Drawn0 w w' := by
 have HR1 := aS_ hr1
 have HC1 := aS_ hc1
 clear hr1 hc1
 have H : ((spec_prSize.f a0).bind fun t168 => (if t168 = true then (if (l1.length : Int) ≥ a0 then (spec_prKeys.j0 k l1 true) else ((spec_l1All.f k l1 0 999).bind fun t169 => (spec_prKeys.j0 k l1 (!t169)))) else (spec_prKeys.j0 k l1 true))) = some r := h
 clear h
 have HC3 := aS_ H
 clear H
 go_enter Tryz.func85, Tryz.ntmps85
 go_upto_region 1 with (fail)
 go_cut [20] (fun v20 wc => ∃ (kq : Nat) (x20_2 : Bool), v20 = .bool x20_2 ∧ Aside0 (spec_prKeys.j0 kq l1 x20_2 = some r) ∧ Aside0 (kq ≤ k) ∧ Drawn0 w wc)
 case first =>
  have H := HC3.out
  clear HC3
  replace H := bs_ H; obtain ⟨t168, A4, H⟩ := H
  replace H := it_ H; rcases H with ⟨rfl, H⟩ | ⟨rfl, H⟩
  ·replace H := id_ H; rcases H with ⟨c6b0, H⟩ | ⟨c6b0, H⟩
   ·(first | rw [c6b0] | (simp only [i64_w, i32_w]; rw [c6b0]) | skip)
    have H' := aS_ H
    clear H
    go_wp2_with (first | ((with_reducible refine gg_ ?_); refine gc_ 61 (some 8) Tryz.func61 #[.int .i64 a0] ?_; (with_reducible refine (spec_prSize.calls a0 true _ A4.out).mono ?_); rintro e w' ⟨rfl, ⟨nd, rfl⟩⟩; refine ⟨_, rfl, ?_⟩))
    go_meet
    case rel => exact ⟨_, (true), sR_, H', ⟨by first | omega | exact Nat.le_refl _⟩, by repeat (first | exact Drawn0.refl _ | apply Drawn0.step)⟩
   (first | rw [c6b0] | (simp only [i64_w, i32_w]; rw [c6b0]) | skip)
   replace H := bs_ H; obtain ⟨t169, A7, H⟩ := H
   have H' := aS_ H
   clear H
   go_wp2_with (first | ((with_reducible refine gg_ ?_); refine gc_ 61 (some 8) Tryz.func61 #[.int .i64 a0] ?_; (with_reducible refine (spec_prSize.calls a0 true _ A4.out).mono ?_); rintro e w' ⟨rfl, ⟨nd, rfl⟩⟩; refine ⟨_, rfl, ?_⟩) | (go_at_call 66; (with_reducible refine (spec_l1All.calls k _ _ l1 0 999 t169 _ ?side1 ?side2 A7.out).mono ?_); (case side1 => repeat (first | exact HR1.out | (with_reducible refine Kd.C_alloc ?_ _) | (with_reducible refine Kd.C_drewN ?_ _) | (with_reducible refine Kd.C_drew ?_))); (case side2 => exact HC1.out); rintro e w' ⟨rfl, ⟨nd, rfl⟩⟩))
   go_meet
   case rel => exact ⟨_, (!t169), sR_, H', ⟨by first | omega | exact Nat.le_refl _⟩, by repeat (first | exact Drawn0.refl _ | apply Drawn0.step)⟩
  have H' := aS_ H
  clear H
  go_wp2_with (first | ((with_reducible refine gg_ ?_); refine gc_ 61 (some 8) Tryz.func61 #[.int .i64 a0] ?_; (with_reducible refine (spec_prSize.calls a0 false _ A4.out).mono ?_); rintro e w' ⟨rfl, ⟨nd, rfl⟩⟩; refine ⟨_, rfl, ?_⟩))
  go_meet
  case rel => exact ⟨_, (true), sR_, H', ⟨by first | omega | exact Nat.le_refl _⟩, by repeat (first | exact Drawn0.refl _ | apply Drawn0.step)⟩
 case rest =>
 clear HC3
 try clear c1
 obtain ⟨kq, x20_2, rfl, HA, HJ2, ⟨mc2, rfl⟩⟩ := hcut
 cases kq with
 | zero => exact absurd HA.out (by simp [spec_prKeys.j0])
 | succ kj2 =>
 have H := HA.out
 clear HA
 simp only [spec_prKeys.j0] at H
 replace H := it_ H; rcases H with ⟨rfl, H⟩ | ⟨rfl, H⟩
 ·obtain rfl := Option.some.inj H
  go_wp2
  go_ret
  exact ⟨sR_, by repeat (first | exact Drawn0.refl _ | apply Drawn0.step)⟩
 have H' := aS_ H
 clear H
 go_wp2
 go_loopg [23] kj2 (fun kq v23 w' => ∃ (x23_2 : Int), v23 = .int .i64 x23_2 ∧ Aside0 (spec_prKeys.l0 kq l1 l1 (l1.length : Int) x23_2 = some r) ∧ Aside0 (kq ≤ kj2) ∧ Drawn0 w w')
 case atStart => exact ⟨(0), sR_, H', ⟨Nat.le_refl _⟩, by repeat (first | exact Drawn0.refl _ | apply Drawn0.step)⟩
 case round =>
 clear H'
 try clear c1
 obtain ⟨x23_2, rfl, HA, HK2, ⟨m2, rfl⟩⟩ := hrel
 cases gk with
 | zero => exact absurd HA.out (by simp [spec_prKeys.l0])
 | succ k2 =>
 have H := HA.out
 clear HA
 simp only [spec_prKeys.l0] at H
 replace H := id_ H; rcases H with ⟨c9b0, H⟩ | ⟨c9b0, H⟩
 ·replace H := jd_ H; obtain ⟨c10b0, H⟩ := H
  replace H := jd_ H; obtain ⟨c11b0, H⟩ := H
  have c12b0 := eq_true (of_decide_eq_true (by assumption) : 0 ≤ x23_2)
  replace H := je_ H; obtain ⟨c13b0, c13b1, H⟩ := H
  replace H := bs_ H; obtain ⟨t172, A14, H⟩ := H
  replace H := it_ H; rcases H with ⟨rfl, H⟩ | ⟨rfl, H⟩
  ·obtain rfl := Option.some.inj H
   have p170 : 0 ≤ (x23_2 : Int) := of_decide_eq_true (by assumption)
   have q170 : x23_2 < (l1.length : Int) := of_decide_eq_true (by assumption)
   obtain ⟨ad170, e170, hx170_0⟩ := Kd.at_int HR1.out x23_2 p170 q170
   cases e170
   replace p170 := eq_true p170
   replace q170 := eq_true q170
   obtain ⟨i016, hi016, _, hsz16, _⟩ := info_parts info3
   obtain ⟨hcut16, hA16, hC16⟩ := print_take_of (P := Tryz.prog) (Value.int .i64) 0 24 3 .i64 Tryz.underlying24 hi016 hsz16 (some ad170) c1 l1 x23_2 (of_decide_eq_true (by assumption)) (of_decide_eq_true (by assumption)) HC1.out
   have HR171 := aS_ (Kd.C_of_reads (h1 := fun _ => rfl) (hA16 _ (Kd.reads_of_C HR1.out)))
   have HC171 := aS_ hC16
   clear hA16 hC16 hi016 hsz16
   go_wp2_with (first | ((with_reducible refine gate_callee (f := 67) rfl ?_); refine goesL_ (some 32) rfl rfl Tryz.func67 (by kernel_rfl) rfl #[.slice (some ad170) (l1.take (x23_2 : Int).toNat).length c1, .int .i64 (rd l1 x23_2)] rfl (by (try simp only [List.map_toArray, List.map_cons, List.map_nil]); first | done | (rw [show (l1.take (x23_2 : Int).toNat).length = x23_2.toNat from (by rw [List.length_take]; have h_ : (x23_2 : Int) ≤ (l1.length : Int) := of_decide_eq_true (by assumption); omega)] <;> rfl) | rfl | (simp only [List.length_drop, List.length_take]; rfl)) ?_; (refine' calls_args ?ha_ ((spec_l1Has.calls k2 _ _ (l1.take (x23_2 : Int).toNat) (rd l1 x23_2) true _ ?side1 ?side2 A14.out).mono ?_)); (case ha_ => first | rfl | (rw [List.length_take, Nat.min_eq_left (by have q_ : x23_2 ≤ (l1.length : Int) := of_decide_eq_true (by assumption); omega)]) | (rw [List.length_take, Nat.min_eq_left (by omega)])); (case side1 => repeat (first | exact HR171.out | (with_reducible refine Kd.C_alloc ?_ _) | (with_reducible refine Kd.C_drewN ?_ _) | (with_reducible refine Kd.C_drew ?_))); (case side2 => exact HC171.out); rintro e w' ⟨rfl, ⟨nd, rfl⟩⟩; refine ⟨_, rfl, ?_⟩))
   go_ret
   exact ⟨sR_, by repeat (first | exact Drawn0.refl _ | apply Drawn0.step)⟩
  have H' := aS_ H
  clear H
  have p170 : 0 ≤ (x23_2 : Int) := of_decide_eq_true (by assumption)
  have q170 : x23_2 < (l1.length : Int) := of_decide_eq_true (by assumption)
  obtain ⟨ad170, e170, hx170_0⟩ := Kd.at_int HR1.out x23_2 p170 q170
  cases e170
  replace p170 := eq_true p170
  replace q170 := eq_true q170
  obtain ⟨i017, hi017, _, hsz17, _⟩ := info_parts info3
  obtain ⟨hcut17, hA17, hC17⟩ := print_take_of (P := Tryz.prog) (Value.int .i64) 0 24 3 .i64 Tryz.underlying24 hi017 hsz17 (some ad170) c1 l1 x23_2 (of_decide_eq_true (by assumption)) (of_decide_eq_true (by assumption)) HC1.out
  have HR171 := aS_ (Kd.C_of_reads (h1 := fun _ => rfl) (hA17 _ (Kd.reads_of_C HR1.out)))
  have HC171 := aS_ hC17
  clear hA17 hC17 hi017 hsz17
  go_wp2_with (first | ((with_reducible refine gate_callee (f := 67) rfl ?_); refine goesL_ (some 32) rfl rfl Tryz.func67 (by kernel_rfl) rfl #[.slice (some ad170) (l1.take (x23_2 : Int).toNat).length c1, .int .i64 (rd l1 x23_2)] rfl (by (try simp only [List.map_toArray, List.map_cons, List.map_nil]); first | done | (rw [show (l1.take (x23_2 : Int).toNat).length = x23_2.toNat from (by rw [List.length_take]; have h_ : (x23_2 : Int) ≤ (l1.length : Int) := of_decide_eq_true (by assumption); omega)] <;> rfl) | rfl | (simp only [List.length_drop, List.length_take]; rfl)) ?_; (refine' calls_args ?ha_ ((spec_l1Has.calls k2 _ _ (l1.take (x23_2 : Int).toNat) (rd l1 x23_2) false _ ?side1 ?side2 A14.out).mono ?_)); (case ha_ => first | rfl | (rw [List.length_take, Nat.min_eq_left (by have q_ : x23_2 ≤ (l1.length : Int) := of_decide_eq_true (by assumption); omega)]) | (rw [List.length_take, Nat.min_eq_left (by omega)])); (case side1 => repeat (first | exact HR171.out | (with_reducible refine Kd.C_alloc ?_ _) | (with_reducible refine Kd.C_drewN ?_ _) | (with_reducible refine Kd.C_drew ?_))); (case side2 => exact HC171.out); rintro e w' ⟨rfl, ⟨nd, rfl⟩⟩; refine ⟨_, rfl, ?_⟩))
  go_roundg k2
  case measure => have := HJ2.out; have := HK2.out; omega
  case rel => exact ⟨(wrap64 (x23_2 + 1)), sR_, H', ⟨by have := HJ2.out; have := HK2.out; omega⟩, by repeat (first | exact Drawn0.refl _ | apply Drawn0.step)⟩
 obtain rfl := Option.some.inj H
 go_wp2
 go_ret
 exact ⟨sR_, by repeat (first | exact Drawn0.refl _ | apply Drawn0.step)⟩
/-! ### spec_prEmpty: function 36 -/
def spec_prEmpty.l0 : Nat → Int → Int → List Int → Option (List Int)
 | 0, _, _, _ => none
 | k + 1, x0, x4, x175000 => if x4 < x0 then (if x175000.length < 17592186044416 then (spec_prEmpty.l0 k x0 (wrap64 (x4 + 1)) (x175000 ++ [(-1)])) else (none)) else (some x175000)
def spec_prEmpty.f (k : Nat) (a0 : Int) : Option (List Int) := spec_prEmpty.l0 k a0 0 ([] : List Int)
theorem spec_prEmpty.mono_l : ∀ k, (∀ y0 y1 y2, LeO (spec_prEmpty.l0 k y0 y1 y2) (spec_prEmpty.l0 (k + 1) y0 y1 y2))
 | 0 => fun _ _ _ r h => by simp [spec_prEmpty.l0] at h
 | k + 1 => by
  have ih0 := spec_prEmpty.mono_l k
  intro y0 y1 y2
  unfold spec_prEmpty.l0
  exact mo1_ ih0
theorem spec_prEmpty.mono : ∀ a0 k, LeO (spec_prEmpty.f k a0) (spec_prEmpty.f (k + 1) a0) := by
 intro a0 k
 have ih0 := spec_prEmpty.mono_l k
 unfold spec_prEmpty.f
 exact mo1_ ih0
set_option maxHeartbeats 8000000 in
set_option maxRecDepth 100000 in
theorem spec_prEmpty.calls (k : Nat) (a0 : Int) (r : List Int) (w : World) (h : spec_prEmpty.f k a0 = some r) :
  Calls Tryz.prog 36 #[.int .i64 a0] w fun e w' => ∃ v0_ : Value, e = .returned (.agg #[v0_]) ∧ Kd.R (Kd.int .i64) 3 w' w.heap.size (fun _ => True) v0_ r ∧ Below w.heap.size w w' := by
 have hu26 := Tryz.underlying26
 have HB := aS_ (Below.refl w.heap.size w)
 have H : (spec_prEmpty.l0 k a0 0 ([] : List Int)) = some r := h
 clear h
 have H' := aS_ H
 clear H
 go_enter Tryz.func36, Tryz.ntmps36
 go_wp2_with (first | ((with_reducible refine gg_ ?_); refine bx_ 2 #[.slice none 0 0] 26 ?_; intro gb173 hg w2 hbox hb; have BK173 := aS_ (hbox); have GW173 := gE_ HB hg; have GE173 := gE_ HB hg; replace HB := bE_ HB hb; clear hb hbox hg) | ((with_reducible refine gg_ ?_); refine bx_ 3 #[.slice none 0 0] 26 ?_; intro gb174 hg w3 hbox hb; have BK174 := aS_ (hbox); have GW174 := gE_ HB hg; have GE174 := gE_ HB hg; replace HB := bE_ HB hb; have NB173_174 := nL_ BK173 hg; have NB174_173 := nG_ BK173 hg; replace BK173 := kO_ BK173 hb; clear hb hbox hg; have hnb4 := NB174_173.out; have hnc4 := NB173_174.out; obtain ⟨hcz5_0, hfz5_0⟩ := c10_ BK174))
 go_loopg [4] k (fun kq v4 w' => ∃ (x4_1 : Int) (x175000_1 : List Int) (u175000 : Value), v4 = .int .i64 x4_1 ∧ Aside0 (spec_prEmpty.l0 kq a0 x4_1 x175000_1 = some r) ∧ Aside0 (kq ≤ k) ∧ Aside0 (Kd.R (Kd.int .i64) 3 w' w.heap.size (fun _ => True) u175000 x175000_1) ∧ Aside0 (w'.heap[gb173]? = some (.cells #[(.slice none 0 0)] 26 (0, 0))) ∧ Aside0 (w'.heap[gb174]? = some (.cells #[u175000] 26 (0, 0))) ∧ Aside0 (Below w.heap.size w w'))
 case atStart => exact ⟨(0), (([] : List Int)), (.slice none 0 0), sR_, H', ⟨Nat.le_refl _⟩, ⟨by first | exact Kd.R_nil _ _ _ _ _ | exact Kd.N_nil _ _ _ _ _ | exact Kd.V_nil _ _ _ _ _ | exact Kd.Q_nil _ _ _ _ _ | exact Kd.S_nil _ _ _ _ _⟩, ⟨by (with_reducible repeat (first | refine kN_ ?_ _ | refine kD_ ?_ | refine kA_ ?_ _)); refine blk_far ?_ NB173_174.out _; (with_reducible repeat (first | refine kN_ ?_ _ | refine kD_ ?_ | refine kA_ ?_ _)); exact BK173.out⟩, ⟨by (with_reducible repeat (first | refine kN_ ?_ _ | refine kD_ ?_ | refine kA_ ?_ _)); refine blk_put (cs := #[.slice none 0 0]) ?_ 0 _ rfl; (with_reducible repeat (first | refine kN_ ?_ _ | refine kD_ ?_ | refine kA_ ?_ _)); exact BK174.out⟩, ⟨bb_ HB⟩⟩
 case round =>
 clear H'
 try clear hcz5_0
 try clear hfz5_0
 obtain ⟨x4_1, x175000_1, u175000, rfl, HA, HK1, HO_175000, BK173, BK174, HB⟩ := hrel
 cases gk with
 | zero => exact absurd HA.out (by simp [spec_prEmpty.l0])
 | succ k1 =>
 have H := HA.out
 clear HA
 simp only [spec_prEmpty.l0] at H
 replace H := id_ H; rcases H with ⟨c6b0, H⟩ | ⟨c6b0, H⟩
 ·replace H := jp_ H; obtain ⟨c7, H⟩ := H
  have LMc7 := aS_ c7
  clear c7
  obtain ⟨y175, hy175⟩ : ∃ y_ : List Int, y_ = (x175000_1 ++ [(-1)]) := ⟨_, rfl⟩
  replace H : (spec_prEmpty.l0 k1 a0 (wrap64 (x4_1 + 1)) y175) = some r := yH_ hy175 H
  have Ny175 := aS_ hy175
  clear hy175
  have H' := aS_ H
  clear H
  have hnb8 := NB174_173.out
  have hnc8 := NB173_174.out
  obtain ⟨hcz9_0, hfz9_0⟩ := c10_ BK174
  go_wp2_with (first | ((with_reducible refine gate_builtin (b := .append) (xs := #[.tmp 12, .tmp 13]) rfl ?_); at_builtin; refine Kd.R_append (Kd.int .i64) (w0 := w) w.heap.size rfl (.tmp 12) (.tmp 13) 24 3 (.int .i64 0) 8 rfl Tryz.underlying24 info3 rfl (by decide) (by omega) u175000 x175000_1 (-1) [.int .i64 (-1)] (fun _ => True) (fun _ => False) rfl rfl ?aP (fun _ hk => hk.elim) ?aF ?aO ?aB ?aS ?aL ?_; (case aP => exact rfl); (case aB => exact (bb_ HB)); (case aF => exact (fun _ _ => trivial)); (case aO => exact (rr_ HO_175000)); (case aS => exact (below_size (bb_ HB))); (case aL => have := LMc7.out; omega); intro v176 w10 ho hb hg hat; rw [← Ny175.out] at ho; replace BK173 := aS_ (blk_grown (g := gb173) (o := .cells #[.slice none 0 0] 26 (0, 0)) (kk_ BK173) hg (Kd.R_ne HO_175000.out BK173.out (by decide))); replace BK174 := aS_ (blk_grown (g := gb174) (o := .cells #[u175000] 26 (0, 0)) (kk_ BK174) hg (Kd.R_ne HO_175000.out BK174.out (by decide))); replace HB := aS_ (hb); have HO177 := aS_ (ho); clear HO_175000; clear ho hb hg hat; obtain ⟨Ao11, co11, eo11⟩ := Kd.R_slice HO177.out; subst eo11; obtain ⟨hcz12_0, hfz12_0⟩ := c10_ BK174))
  go_roundg k1
  case measure => have := HK1.out; omega
  case rel => exact ⟨(wrap64 (x4_1 + 1)), (y175), (.slice Ao11 y175.length co11), sR_, H', ⟨by have := HK1.out; omega⟩, ⟨by (with_reducible repeat (first | apply rA_ | apply rN_ | apply rD_)); exact Kd.R_mono (Kd.R_far (p := ⟨gb174, 0, none⟩) (Kd.R_types HO177.out BK174.out (by decide)) (fun _ hk => hk.2) (.slice Ao11 y175.length co11)) (fun _ hk => trivial)⟩, ⟨by (with_reducible repeat (first | refine kN_ ?_ _ | refine kD_ ?_ | refine kA_ ?_ _)); refine blk_far ?_ NB173_174.out _; (with_reducible repeat (first | refine kN_ ?_ _ | refine kD_ ?_ | refine kA_ ?_ _)); exact BK173.out⟩, ⟨by (with_reducible repeat (first | refine kN_ ?_ _ | refine kD_ ?_ | refine kA_ ?_ _)); refine blk_put (cs := #[u175000]) ?_ 0 _ rfl; (with_reducible repeat (first | refine kN_ ?_ _ | refine kD_ ?_ | refine kA_ ?_ _)); exact BK174.out⟩, ⟨bb_ HB⟩⟩
 obtain rfl := Option.some.inj H
 have hnb13 := NB174_173.out
 have hnc13 := NB173_174.out
 obtain ⟨hcz14_0, hfz14_0⟩ := c10_ BK174
 obtain ⟨Ao15, co15, eo15⟩ := Kd.R_slice HO_175000.out
 subst eo15
 obtain ⟨hcz16_0, hfz16_0⟩ := c10_ BK173
 go_wp2
 refine bodyPost_ret (results_cell_row rfl _ _ gb173 26 #[.slice Ao15 x175000_1.length co15] (0, 0) _ rfl (by (with_reducible repeat (first | refine kN_ ?_ _ | refine kD_ ?_ | refine kA_ ?_ _)); refine blk_put (cs := #[.slice none 0 0]) ?_ 0 _ rfl; (with_reducible repeat (first | refine kN_ ?_ _ | refine kD_ ?_ | refine kA_ ?_ _)); exact BK173.out) Tryz.underlying26 rfl (by kernel_rfl)) rfl ?_
 exact ⟨_, by first | rfl | (simp [errW_none, errW_some] <;> rfl) | (simp [*, errW_none, errW_some] <;> rfl), by (with_reducible repeat (first | apply rA_ | apply rN_ | apply rD_)); exact Kd.R_mono (Kd.R_far (p := ⟨gb173, 0, none⟩) (Kd.R_types HO_175000.out BK173.out (by decide)) (fun _ hk => hk.2) (.slice Ao15 x175000_1.length co15)) (fun _ hk => trivial), bb_ HB⟩
/-! ### spec_prInsert: function 104 -/
def spec_prInsert.l0 : Nat → List Int → Int → Int → Option (Int × List Int)
 | 0, _, _, _ => none
 | k + 1, x0, x1, x5 => if 0 ≤ x5 then (if x5 < (x0.length : Int) then (if (rd x0 x5) = (-1) then (some (x5, (x0.set (x5 : Int).toNat x1))) else (if (x0.length : Int) = 0 then (none) else (spec_prInsert.l0 k x0 x1 (Int.tmod (wrap64 (x5 + 1)) (x0.length : Int))))) else (none)) else (none)
def spec_prInsert.f (k : Nat) (l0 : List Int) (a1 : Int) : Option (Int × List Int) := if (l0.length : Int) = 0 then (none) else (spec_prInsert.l0 k l0 a1 (Int.tmod a1 (l0.length : Int)))
theorem spec_prInsert.mono_l : ∀ k, (∀ y0 y1 y2, LeO (spec_prInsert.l0 k y0 y1 y2) (spec_prInsert.l0 (k + 1) y0 y1 y2))
 | 0 => fun _ _ _ r h => by simp [spec_prInsert.l0] at h
 | k + 1 => by
  have ih0 := spec_prInsert.mono_l k
  intro y0 y1 y2
  unfold spec_prInsert.l0
  exact mo1_ ih0
theorem spec_prInsert.mono : ∀ a0 a1 k, LeO (spec_prInsert.f k a0 a1) (spec_prInsert.f (k + 1) a0 a1) := by
 intro a0 a1 k
 have ih0 := spec_prInsert.mono_l k
 unfold spec_prInsert.f
 exact mo1_ ih0
set_option maxHeartbeats 8000000 in
set_option maxRecDepth 100000 in
theorem spec_prInsert.calls (k : Nat) (P0_ : Nat → Prop) (u9000_ : Value) (l0 : List Int) (a1 : Int) (r1 : Int) (r2 : List Int) (w0 w : World) (hB : Below w0.heap.size w0 w) (ho0 : Kd.R (Kd.int .i64) 3 w w0.heap.size P0_ u9000_ l0) (h : spec_prInsert.f k l0 a1 = some (r1, r2)) :
  Calls Tryz.prog 104 #[u9000_, .int .i64 a1] w fun e w' => e = .returned (.int .i64 r1) ∧ Kd.R (Kd.int .i64) 3 w' w0.heap.size (fun k_ => (P0_ k_ ∨ w.heap.size ≤ k_)) u9000_ r2 ∧ Below w0.heap.size w0 w' ∧ Kept w w' (fun k_ => P0_ k_) := by
 have HO0 := aS_ (show Kd.R (Kd.int .i64) 3 w w0.heap.size (fun k_ => (P0_ k_ ∨ w.heap.size ≤ k_)) u9000_ l0 from Kd.R_mono ho0 (fun k_ hk => (.inl hk)))
 have HK := aS_ (Kept.refl w (fun k_ => P0_ k_))
 have HW0 := aS_ hB.size
 have HB := aS_ hB
 clear hB
 have H : (if (l0.length : Int) = 0 then (none) else (spec_prInsert.l0 k l0 a1 (Int.tmod a1 (l0.length : Int)))) = some (r1, r2) := h
 clear h
 replace H := jn_ H; obtain ⟨c3, H⟩ := H
 have c3b0 : ((l0.length : Int) == 0) = false := beq_eq_false_iff_ne.mpr c3
 have c3b1 : ((l0.length : Int) != 0) = true := bne_iff_ne.mpr c3
 have c3b2 : ¬ (l0 = []) := fun h_ => c3 (by rw [h_]; rfl)
 have H' := aS_ H
 clear H
 obtain ⟨Ao4, co4, eo4⟩ := Kd.R_slice HO0.out
 subst eo4
 go_enter Tryz.func104, Tryz.ntmps104
 go_wp2
 go_loopg [5] k (fun kq v5 w' => ∃ (x5_1 : Int), v5 = .int .i64 x5_1 ∧ Aside0 (spec_prInsert.l0 kq l0 a1 x5_1 = some (r1, r2)) ∧ Aside0 (kq ≤ k) ∧ Aside0 (Kd.R (Kd.int .i64) 3 w' w0.heap.size (fun k_ => (P0_ k_ ∨ w.heap.size ≤ k_)) (.slice Ao4 l0.length co4) l0) ∧ Aside0 (Kept w w' (fun k_ => P0_ k_)) ∧ Aside0 (Below w0.heap.size w0 w'))
 case atStart => exact ⟨(Int.tmod a1 (l0.length : Int)), sR_, H', ⟨Nat.le_refl _⟩, ⟨rr_ HO0⟩, ⟨by repeat (first | (with_reducible first | exact HK.out | apply Kept.alloc | apply Kept.drewN | apply Kept.drew) | exact HK.out)⟩, ⟨bb_ HB⟩⟩
 case round =>
 clear H'
 try clear c3
 try clear c3b0
 try clear c3b1
 try clear c3b2
 obtain ⟨x5_1, rfl, HA, HK1, HO_0, HK, HB⟩ := hrel
 cases gk with
 | zero => exact absurd HA.out (by simp [spec_prInsert.l0])
 | succ k1 =>
 have H := HA.out
 clear HA
 simp only [spec_prInsert.l0] at H
 replace H := jd_ H; obtain ⟨c5b0, H⟩ := H
 replace H := jd_ H; obtain ⟨c6b0, H⟩ := H
 replace H := iq_ H; rcases H with ⟨c7b0, c7b1, H⟩ | ⟨c7b0, c7b1, c7, H⟩
 ·obtain ⟨y179, hy179⟩ : ∃ y_ : List Int, y_ = (l0.set (x5_1 : Int).toNat a1) := ⟨_, rfl⟩
  replace H : (some (x5_1, y179)) = some (r1, r2) := yH_ hy179 H
  have Ny179 := aS_ hy179
  clear hy179
  simp only [Option.some.injEq, Prod.mk.injEq] at H
  obtain ⟨rfl, rfl⟩ := H
  have p178 : 0 ≤ (x5_1 : Int) := of_decide_eq_true (by assumption)
  have q178 : x5_1 < (l0.length : Int) := of_decide_eq_true (by assumption)
  obtain ⟨ad178, e178, hx178_0⟩ := Kd.at_int (Kd.R_reads' HO_0.out).2.2 x5_1 p178 q178
  cases e178
  replace p178 := eq_true p178
  replace q178 := eq_true q178
  have p8 : 0 ≤ (x5_1 : Int) := of_decide_eq_true (by assumption)
  have q8 : (x5_1 : Int) < ((l0.length : Int) : Int) := of_decide_eq_true (by assumption)
  obtain ⟨go8, co8, eo8, gb8, gl8, cl8, HG8⟩ := Kd.R_form HO_0.out (by omega)
  (first | cases eo8 | (injection eo8 with ea_ en_ ec_; (first | subst ea_ | (injection ea_ with ea_; subst ea_)); subst ec_; clear en_))
  have GB8 := aS_ gb8
  have GG8 := aS_ HG8
  clear gb8 gl8 HG8
  have HMgo8 := aS_ (show (P0_ go8 ∨ w.heap.size ≤ go8) from (HO_0.out.1 _ rfl))
  (first | simp only [add_plain] at hx178_0 | skip)
  obtain ⟨hx8_0, hf8_0⟩ := Kd.R_celln 0 HO_0.out (x5_1 : Int) p8 q8
  replace p8 := eq_true p8
  replace q8 := eq_true q8
  have HP9 := Kd.R_putg HO_0.out (x5_1 : Int) a1
  go_wp2_with (first | ((with_reducible refine gate_store (t := 3) (p := 23) rfl ?_); refine store_event (t := 3) (p := 23) (v := ?vo_w10) (w1 := (wr.setCell ⟨go8, (x5_1 : Int).toNat, none⟩ (.int .i64 a1))) ?hg ?ho ?hn ?hr ?_; (case ho => rfl); (case hg => rfl); (case hn => rfl); (case hr => first | (go_simp; done) | (go_simp; rfl)); intro w10 hw; have hg : wr.grownBy w10 (some go8) := (by rw [hw]; exact HP9.2); have hp_ : Kd.R (Kd.int .i64) 3 w10 w0.heap.size (fun k_ => (P0_ k_ ∨ w.heap.size ≤ k_)) (.slice (some ⟨go8, 0, none⟩) l0.length co4) y179 := (by rw [hw, Ny179.out]; exact HP9.1); clear HP9; replace HB := aS_ ((by rw [hw]; exact bS_ (HB.out) GB8.out : Below w0.heap.size w0 w10)); replace HK := aS_ (Kept.of_grown (S := (fun k_ => P0_ k_)) hg (by repeat (first | (with_reducible first | exact HK.out | apply Kept.alloc | apply Kept.drewN | apply Kept.drew) | exact HK.out)) (fun k_ e_ => (HO_0.out.1 k_ e_))); replace HO_0 := aS_ (hp_); clear hg hw hp_))
  go_ret
  exact ⟨eR_, rr_ HO_0, bb_ HB, by repeat (first | (with_reducible first | exact HK.out | apply Kept.alloc | apply Kept.drewN | apply Kept.drew) | exact HK.out)⟩
 replace H := jn_ H; obtain ⟨c11, H⟩ := H
 have c11b0 : ((l0.length : Int) == 0) = false := beq_eq_false_iff_ne.mpr c11
 have c11b1 : ((l0.length : Int) != 0) = true := bne_iff_ne.mpr c11
 have c11b2 : ¬ (l0 = []) := fun h_ => c11 (by rw [h_]; rfl)
 have H' := aS_ H
 clear H
 have p178 : 0 ≤ (x5_1 : Int) := of_decide_eq_true (by assumption)
 have q178 : x5_1 < (l0.length : Int) := of_decide_eq_true (by assumption)
 obtain ⟨ad178, e178, hx178_0⟩ := Kd.at_int (Kd.R_reads' HO_0.out).2.2 x5_1 p178 q178
 cases e178
 replace p178 := eq_true p178
 replace q178 := eq_true q178
 go_wp2
 go_roundg k1
 case measure => have := HK1.out; omega
 case rel => exact ⟨(Int.tmod (wrap64 (x5_1 + 1)) (l0.length : Int)), sR_, H', ⟨by have := HK1.out; omega⟩, ⟨rr_ HO_0⟩, ⟨by repeat (first | (with_reducible first | exact HK.out | apply Kept.alloc | apply Kept.drewN | apply Kept.drew) | exact HK.out)⟩, ⟨bb_ HB⟩⟩
/-! ### spec_prOf: function 86 -/
def spec_prOf.l0 : Nat → List Int → Int → Int → List Int → Option (List Int)
 | 0, _, _, _, _ => none
 | k + 1, x10, x11, x12, x185000 => if x12 < x11 then (if 0 ≤ x12 then (if x12 < (x10.length : Int) then ((spec_prInsert.f k x185000 (rd x10 x12)).bind fun bt186 => (spec_prOf.l0 k x10 x11 (wrap64 (x12 + 1)) bt186.2)) else (none)) else (none)) else (some x185000)
def spec_prOf.f (k : Nat) (a0 : Int) (l1 : List Int) : Option (List Int) := (spec_prEmpty.f k a0).bind fun t181 => (spec_prOf.l0 k l1 (l1.length : Int) 0 t181)
theorem spec_prOf.mono_l : ∀ k, (∀ y0 y1 y2 y3, LeO (spec_prOf.l0 k y0 y1 y2 y3) (spec_prOf.l0 (k + 1) y0 y1 y2 y3))
 | 0 => fun _ _ _ _ r h => by simp [spec_prOf.l0] at h
 | k + 1 => by
  have ih0 := spec_prOf.mono_l k
  intro y0 y1 y2 y3
  unfold spec_prOf.l0
  exact mo3_ ih0 spec_prEmpty.mono spec_prInsert.mono
theorem spec_prOf.mono : ∀ a0 a1 k, LeO (spec_prOf.f k a0 a1) (spec_prOf.f (k + 1) a0 a1) := by
 intro a0 a1 k
 have ih0 := spec_prOf.mono_l k
 unfold spec_prOf.f
 exact mo3_ ih0 spec_prEmpty.mono spec_prInsert.mono
set_option maxHeartbeats 8000000 in
set_option maxRecDepth 100000 in
theorem spec_prOf.calls (k : Nat) (a0 : Int) (A1 : Option Addr) (c1 : Nat) (l1 : List Int) (r : List Int) (w : World) (hr1 : Kd.C (Kd.int .i64) w A1 l1.length l1) (hc1 : l1.length ≤ c1) (h : spec_prOf.f k a0 l1 = some r) :
  Calls Tryz.prog 86 #[.int .i64 a0, .slice A1 l1.length c1] w fun e w' => ∃ v0_ : Value, e = .returned (.agg #[v0_]) ∧ Kd.R (Kd.int .i64) 3 w' w.heap.size (fun _ => True) v0_ r ∧ Below w.heap.size w w' := by
 have hu26 := Tryz.underlying26
 have HR1 := aS_ hr1
 have HC1 := aS_ hc1
 clear hr1 hc1
 have HB := aS_ (Below.refl w.heap.size w)
 have H : ((spec_prEmpty.f k a0).bind fun t181 => (spec_prOf.l0 k l1 (l1.length : Int) 0 t181)) = some r := h
 clear h
 replace H := bs_ H; obtain ⟨t181, A3, H⟩ := H
 have H' := aS_ H
 clear H
 go_enter Tryz.func86, Tryz.ntmps86
 go_wp2_with (first | ((with_reducible refine gg_ ?_); refine bx_ 4 #[.slice none 0 0] 26 ?_; intro gb180 hg w4 hbox hb; have BK180 := aS_ (hbox); have GW180 := gE_ HB hg; have GE180 := gE_ HB hg; replace HB := bE_ HB hb; clear hb hbox hg) | ((with_reducible refine gg_ ?_); refine gc_ 36 (some 9) Tryz.func36 #[.int .i64 a0] ?_; (with_reducible refine (spec_prEmpty.calls k a0 t181 _ A3.out).mono ?_); rintro e w5 ⟨v182, rfl, ho0, hb⟩; refine ⟨_, rfl, ?_⟩; have HO183 := aS_ (Kd.R_lower ho0 (below_size (bb_ HB))); replace BK180 := kO_ BK180 hb; replace HB := bE_ HB hb; (try clear hb); (try clear ho0)) | ((with_reducible refine gg_ ?_); refine bx_ 5 #[.slice none 0 0] 26 ?_; intro gb184 hg w6 hbox hb; replace HO183 := aS_ (Kd.R_below (rr_ HO183) hb); have BK184 := aS_ (hbox); have GW184 := gE_ HB hg; have GE184 := gE_ HB hg; replace HB := bE_ HB hb; have NB180_184 := nL_ BK180 hg; have NB184_180 := nG_ BK180 hg; replace BK180 := kO_ BK180 hb; clear hb hbox hg; obtain ⟨Ao7, co7, eo7⟩ := Kd.R_slice HO183.out; subst eo7; have hnb8 := NB184_180.out; have hnc8 := NB180_184.out; obtain ⟨hcz9_0, hfz9_0⟩ := c10_ BK184))
 go_loopg [12] k (fun kq v12 w' => ∃ (x12_1 : Int) (x185000_1 : List Int) (u185000 : Value), v12 = .int .i64 x12_1 ∧ Aside0 (spec_prOf.l0 kq l1 (l1.length : Int) x12_1 x185000_1 = some r) ∧ Aside0 (kq ≤ k) ∧ Aside0 (Kd.R (Kd.int .i64) 3 w' w.heap.size (fun _ => True) u185000 x185000_1) ∧ Aside0 (w'.heap[gb180]? = some (.cells #[(.slice none 0 0)] 26 (0, 0))) ∧ Aside0 (w'.heap[gb184]? = some (.cells #[u185000] 26 (0, 0))) ∧ Aside0 (Below w.heap.size w w'))
 case atStart => exact ⟨(0), (t181), (.slice Ao7 t181.length co7), sR_, H', ⟨Nat.le_refl _⟩, ⟨by (with_reducible repeat (first | apply rA_ | apply rN_ | apply rD_)); exact Kd.R_mono (Kd.R_far (p := ⟨gb184, 0, none⟩) (Kd.R_types HO183.out BK184.out (by decide)) (fun _ hk => hk.2) (.slice Ao7 t181.length co7)) (fun _ hk => trivial)⟩, ⟨by (with_reducible repeat (first | refine kN_ ?_ _ | refine kD_ ?_ | refine kA_ ?_ _)); refine blk_far ?_ NB180_184.out _; (with_reducible repeat (first | refine kN_ ?_ _ | refine kD_ ?_ | refine kA_ ?_ _)); exact BK180.out⟩, ⟨by (with_reducible repeat (first | refine kN_ ?_ _ | refine kD_ ?_ | refine kA_ ?_ _)); refine blk_put (cs := #[.slice none 0 0]) ?_ 0 _ rfl; (with_reducible repeat (first | refine kN_ ?_ _ | refine kD_ ?_ | refine kA_ ?_ _)); exact BK184.out⟩, ⟨bb_ HB⟩⟩
 case round =>
 clear H'
 try clear c1
 try clear hcz9_0
 try clear hfz9_0
 obtain ⟨x12_1, x185000_1, u185000, rfl, HA, HK1, HO_185000, BK180, BK184, HB⟩ := hrel
 cases gk with
 | zero => exact absurd HA.out (by simp [spec_prOf.l0])
 | succ k1 =>
 have H := HA.out
 clear HA
 simp only [spec_prOf.l0] at H
 replace H := id_ H; rcases H with ⟨c10b0, H⟩ | ⟨c10b0, H⟩
 ·replace H := jd_ H; obtain ⟨c11b0, H⟩ := H
  replace H := jd_ H; obtain ⟨c12b0, H⟩ := H
  replace H := bs_ H; obtain ⟨⟨t186, t187⟩, A13, H⟩ := H
  have H' := aS_ H
  clear H
  have p185 : 0 ≤ (x12_1 : Int) := of_decide_eq_true (by assumption)
  have q185 : x12_1 < (l1.length : Int) := of_decide_eq_true (by assumption)
  obtain ⟨ad185, e185, hx185_0⟩ := Kd.at_int HR1.out x12_1 p185 q185
  cases e185
  replace hx185_0 := (HB.out.cell (World.block_lt_of_cell? w _ hx185_0)).trans hx185_0
  replace p185 := eq_true p185
  replace q185 := eq_true q185
  have hnb14 := NB184_180.out
  have hnc14 := NB180_184.out
  obtain ⟨hcz15_0, hfz15_0⟩ := c10_ BK184
  obtain ⟨Ao16, co16, eo16⟩ := Kd.R_slice HO_185000.out
  subst eo16
  go_wp2_with (first | ((with_reducible refine gg_ ?_); refine gc_ 104 (some 19) Tryz.func104 #[.slice Ao16 x185000_1.length co16, .int .i64 (rd l1 x12_1)] ?_; (with_reducible refine (spec_prInsert.calls k1 (fun k_ => some k_ = (.slice Ao16 x185000_1.length co16 : Value).ownBlock) (.slice Ao16 x185000_1.length co16) x185000_1 (rd l1 x12_1) t186 t187 w _ ?side1 ?side2 A13.out).mono ?_); (case side1 => repeat (first | (with_reducible first | exact HB.out | apply bA_ | apply pN_ | apply bD_ | refine bS_ ?_ GE180.out | refine bS_ ?_ GE184.out) | exact HB.out)); (case side2 => exact Kd.R_tight rfl HO_185000.out); rintro e w17 ⟨rfl, hy0, hb, hkp⟩; refine ⟨_, rfl, ?_⟩; replace BK180 := aS_ (blk_kept (kk_ BK180) hkp (fun hs_ => (fun e_ => (Kd.R_ne HO_185000.out BK180.out (by decide)) e_) hs_)); replace BK184 := aS_ (blk_kept (kk_ BK184) hkp (fun hs_ => (fun e_ => (Kd.R_ne HO_185000.out BK184.out (by decide)) e_) hs_)); replace HO_185000 := aS_ (Kd.R_reok rfl hy0 (fun k_ e_ => HO_185000.out.1 k_ e_)); replace HB := aS_ (hb); (try clear hb); (try clear hkp); (try clear hy0)))
  go_roundg k1
  case measure => have := HK1.out; omega
  case rel => exact ⟨(wrap64 (x12_1 + 1)), (t187), (.slice Ao16 x185000_1.length co16), sR_, H', ⟨by have := HK1.out; omega⟩, ⟨rr_ HO_185000⟩, ⟨kk_ BK180⟩, ⟨kk_ BK184⟩, ⟨bb_ HB⟩⟩
 obtain rfl := Option.some.inj H
 have hnb18 := NB184_180.out
 have hnc18 := NB180_184.out
 obtain ⟨hcz19_0, hfz19_0⟩ := c10_ BK184
 obtain ⟨Ao20, co20, eo20⟩ := Kd.R_slice HO_185000.out
 subst eo20
 obtain ⟨hcz21_0, hfz21_0⟩ := c10_ BK180
 go_wp2
 refine bodyPost_ret (results_cell_row rfl _ _ gb180 26 #[.slice Ao20 x185000_1.length co20] (0, 0) _ rfl (by (with_reducible repeat (first | refine kN_ ?_ _ | refine kD_ ?_ | refine kA_ ?_ _)); refine blk_put (cs := #[.slice none 0 0]) ?_ 0 _ rfl; (with_reducible repeat (first | refine kN_ ?_ _ | refine kD_ ?_ | refine kA_ ?_ _)); exact BK180.out) Tryz.underlying26 rfl (by kernel_rfl)) rfl ?_
 exact ⟨_, by first | rfl | (simp [errW_none, errW_some] <;> rfl) | (simp [*, errW_none, errW_some] <;> rfl), by (with_reducible repeat (first | apply rA_ | apply rN_ | apply rD_)); exact Kd.R_mono (Kd.R_far (p := ⟨gb180, 0, none⟩) (Kd.R_types HO_185000.out BK180.out (by decide)) (fun _ hk => hk.2) (.slice Ao20 x185000_1.length co20)) (fun _ hk => trivial), bb_ HB⟩
/-! ### spec_prCost: function 68 -/
def spec_prCost.f (a0 : Int) (a1 : Int) (a2 : Int) : Option (Int) := if a2 = 0 then (none) else (some (Int.tmod (wrap64 ((wrap64 (a1 - (Int.tmod a0 a2))) + a2)) a2))
set_option maxHeartbeats 8000000 in
set_option maxRecDepth 100000 in
theorem spec_prCost.calls (a0 : Int) (a1 : Int) (a2 : Int) (r : Int) (w : World) (h : spec_prCost.f a0 a1 a2 = some r) :
  Calls Tryz.prog 68 #[.int .i64 a0, .int .i64 a1, .int .i64 a2] w fun e w' => e = .returned (.int .i64 r) ∧ Drawn0 w w' := by
 have H : (if a2 = 0 then (none) else (some (Int.tmod (wrap64 ((wrap64 (a1 - (Int.tmod a0 a2))) + a2)) a2))) = some r := h
 clear h
 replace H := jn_ H; obtain ⟨c4, H⟩ := H
 have c4b0 : (a2 == 0) = false := beq_eq_false_iff_ne.mpr c4
 have c4b1 : (a2 != 0) = true := bne_iff_ne.mpr c4
 obtain rfl := Option.some.inj H
 go_enter Tryz.func68, Tryz.ntmps68
 go_wp2
 go_ret
 exact ⟨sR_, by repeat (first | exact Drawn0.refl _ | apply Drawn0.step)⟩
/-! ### spec_prRobin: function 87 -/
mutual
def spec_prRobin.l0 : Nat → Int → List Int → Int → Int → List Int → Option (List Int)
 | 0, _, _, _, _, _ => none
 | k + 1, x0, x15, x16, x17, x193000 => if x17 < x16 then (if 0 ≤ x17 then (if x17 < (x15.length : Int) then (if x0 = 0 then (none) else (spec_prRobin.l1 k x0 (rd x15 x17) (Int.tmod (rd x15 x17) x0) x15 x16 x17 x193000)) else (none)) else (none)) else (some x193000)
def spec_prRobin.l1 : Nat → Int → Int → Int → List Int → Int → Int → List Int → Option (List Int)
 | 0, _, _, _, _, _, _, _ => none
 | k + 1, x0, x8, x9, x15, x16, x17, x193000 => if 0 ≤ x9 then (if x9 < (x193000.length : Int) then (if (rd x193000 x9) = (-1) then (spec_prRobin.l0 k x0 x15 x16 (wrap64 (x17 + 1)) (x193000.set (x9 : Int).toNat x8)) else ((spec_prCost.f x8 x9 x0).bind fun t197 => ((spec_prCost.f (rd x193000 x9) x9 x0).bind fun t198 => (if t197 > t198 then (if x0 = 0 then (none) else (spec_prRobin.l1 k x0 (rd x193000 x9) (Int.tmod (wrap64 (x9 + 1)) x0) x15 x16 x17 (x193000.set (x9 : Int).toNat x8))) else (if t197 = t198 then (if x8 > (rd x193000 x9) then (if x0 = 0 then (none) else (spec_prRobin.l1 k x0 (rd x193000 x9) (Int.tmod (wrap64 (x9 + 1)) x0) x15 x16 x17 (x193000.set (x9 : Int).toNat x8))) else (if x0 = 0 then (none) else (spec_prRobin.l1 k x0 x8 (Int.tmod (wrap64 (x9 + 1)) x0) x15 x16 x17 x193000))) else (if x0 = 0 then (none) else (spec_prRobin.l1 k x0 x8 (Int.tmod (wrap64 (x9 + 1)) x0) x15 x16 x17 x193000))))))) else (none)) else (none)
end
def spec_prRobin.f (k : Nat) (a0 : Int) (l1 : List Int) : Option (List Int) := (spec_prEmpty.f k a0).bind fun t189 => (spec_prRobin.l0 k a0 l1 (l1.length : Int) 0 t189)
theorem spec_prRobin.mono_l : ∀ k, (∀ y0 y1 y2 y3 y4, LeO (spec_prRobin.l0 k y0 y1 y2 y3 y4) (spec_prRobin.l0 (k + 1) y0 y1 y2 y3 y4)) ∧ (∀ y0 y1 y2 y3 y4 y5 y6, LeO (spec_prRobin.l1 k y0 y1 y2 y3 y4 y5 y6) (spec_prRobin.l1 (k + 1) y0 y1 y2 y3 y4 y5 y6))
 | 0 => ⟨fun _ _ _ _ _ r h => by simp [spec_prRobin.l0] at h, fun _ _ _ _ _ _ _ r h => by simp [spec_prRobin.l1] at h⟩
 | k + 1 => by
  obtain ⟨ih0, ih1⟩ := spec_prRobin.mono_l k
  refine ⟨?_, ?_⟩
  ·intro y0 y1 y2 y3 y4
   unfold spec_prRobin.l0
   exact mo3_ ih0 ih1 spec_prEmpty.mono
  intro y0 y1 y2 y3 y4 y5 y6
  unfold spec_prRobin.l1
  exact mo3_ ih0 ih1 spec_prEmpty.mono
theorem spec_prRobin.mono : ∀ a0 a1 k, LeO (spec_prRobin.f k a0 a1) (spec_prRobin.f (k + 1) a0 a1) := by
 intro a0 a1 k
 obtain ⟨ih0, ih1⟩ := spec_prRobin.mono_l k
 unfold spec_prRobin.f
 exact mo3_ ih0 ih1 spec_prEmpty.mono
set_option maxHeartbeats 8000000 in
set_option maxRecDepth 100000 in
theorem spec_prRobin.calls (k : Nat) (a0 : Int) (A1 : Option Addr) (c1 : Nat) (l1 : List Int) (r : List Int) (w : World) (hr1 : Kd.C (Kd.int .i64) w A1 l1.length l1) (hc1 : l1.length ≤ c1) (h : spec_prRobin.f k a0 l1 = some r) :
  Calls Tryz.prog 87 #[.int .i64 a0, .slice A1 l1.length c1] w fun e w' => ∃ v0_ : Value, e = .returned (.agg #[v0_]) ∧ Kd.R (Kd.int .i64) 3 w' w.heap.size (fun _ => True) v0_ r ∧ Below w.heap.size w w' := by
 have hu26 := Tryz.underlying26
 have HR1 := aS_ hr1
 have HC1 := aS_ hc1
 clear hr1 hc1
 have HB := aS_ (Below.refl w.heap.size w)
 have H : ((spec_prEmpty.f k a0).bind fun t189 => (spec_prRobin.l0 k a0 l1 (l1.length : Int) 0 t189)) = some r := h
 clear h
 replace H := bs_ H; obtain ⟨t189, A3, H⟩ := H
 have H' := aS_ H
 clear H
 go_enter Tryz.func87, Tryz.ntmps87
 go_wp2_with (first | ((with_reducible refine gg_ ?_); refine bx_ 4 #[.slice none 0 0] 26 ?_; intro gb188 hg w4 hbox hb; have BK188 := aS_ (hbox); have GW188 := gE_ HB hg; have GE188 := gE_ HB hg; replace HB := bE_ HB hb; clear hb hbox hg) | ((with_reducible refine gg_ ?_); refine gc_ 36 (some 14) Tryz.func36 #[.int .i64 a0] ?_; (with_reducible refine (spec_prEmpty.calls k a0 t189 _ A3.out).mono ?_); rintro e w5 ⟨v190, rfl, ho0, hb⟩; refine ⟨_, rfl, ?_⟩; have HO191 := aS_ (Kd.R_lower ho0 (below_size (bb_ HB))); replace BK188 := kO_ BK188 hb; replace HB := bE_ HB hb; (try clear hb); (try clear ho0)) | ((with_reducible refine gg_ ?_); refine bx_ 5 #[.slice none 0 0] 26 ?_; intro gb192 hg w6 hbox hb; replace HO191 := aS_ (Kd.R_below (rr_ HO191) hb); have BK192 := aS_ (hbox); have GW192 := gE_ HB hg; have GE192 := gE_ HB hg; replace HB := bE_ HB hb; have NB188_192 := nL_ BK188 hg; have NB192_188 := nG_ BK188 hg; replace BK188 := kO_ BK188 hb; clear hb hbox hg; obtain ⟨Ao7, co7, eo7⟩ := Kd.R_slice HO191.out; subst eo7; have hnb8 := NB192_188.out; have hnc8 := NB188_192.out; obtain ⟨hcz9_0, hfz9_0⟩ := c10_ BK192))
 go_loopg [17] k (fun kq v17 w' => ∃ (x17_1 : Int) (x193000_1 : List Int) (u193000 : Value), v17 = .int .i64 x17_1 ∧ Aside0 (spec_prRobin.l0 kq a0 l1 (l1.length : Int) x17_1 x193000_1 = some r) ∧ Aside0 (kq ≤ k) ∧ Aside0 (Kd.R (Kd.int .i64) 3 w' w.heap.size (fun _ => True) u193000 x193000_1) ∧ Aside0 (w'.heap[gb188]? = some (.cells #[(.slice none 0 0)] 26 (0, 0))) ∧ Aside0 (w'.heap[gb192]? = some (.cells #[u193000] 26 (0, 0))) ∧ Aside0 (Below w.heap.size w w'))
 case atStart => exact ⟨(0), (t189), (.slice Ao7 t189.length co7), sR_, H', ⟨Nat.le_refl _⟩, ⟨by (with_reducible repeat (first | apply rA_ | apply rN_ | apply rD_)); exact Kd.R_mono (Kd.R_far (p := ⟨gb192, 0, none⟩) (Kd.R_types HO191.out BK192.out (by decide)) (fun _ hk => hk.2) (.slice Ao7 t189.length co7)) (fun _ hk => trivial)⟩, ⟨by (with_reducible repeat (first | refine kN_ ?_ _ | refine kD_ ?_ | refine kA_ ?_ _)); refine blk_far ?_ NB188_192.out _; (with_reducible repeat (first | refine kN_ ?_ _ | refine kD_ ?_ | refine kA_ ?_ _)); exact BK188.out⟩, ⟨by (with_reducible repeat (first | refine kN_ ?_ _ | refine kD_ ?_ | refine kA_ ?_ _)); refine blk_put (cs := #[.slice none 0 0]) ?_ 0 _ rfl; (with_reducible repeat (first | refine kN_ ?_ _ | refine kD_ ?_ | refine kA_ ?_ _)); exact BK192.out⟩, ⟨bb_ HB⟩⟩
 case round =>
 clear H'
 try clear c1
 try clear hcz9_0
 try clear hfz9_0
 obtain ⟨x17_1, x193000_1, u193000, rfl, HA, HK1, HO_193000, BK188, BK192, HB⟩ := hrel
 cases gk with
 | zero => exact absurd HA.out (by simp [spec_prRobin.l0])
 | succ k1 =>
 have H := HA.out
 clear HA
 simp only [spec_prRobin.l0] at H
 replace H := id_ H; rcases H with ⟨c10b0, H⟩ | ⟨c10b0, H⟩
 ·replace H := jd_ H; obtain ⟨c11b0, H⟩ := H
  replace H := jd_ H; obtain ⟨c12b0, H⟩ := H
  replace H := jn_ H; obtain ⟨c13, H⟩ := H
  have c13b0 : (a0 == 0) = false := beq_eq_false_iff_ne.mpr c13
  have c13b1 : (a0 != 0) = true := bne_iff_ne.mpr c13
  have H' := aS_ H
  clear H
  have p193 : 0 ≤ (x17_1 : Int) := of_decide_eq_true (by assumption)
  have q193 : x17_1 < (l1.length : Int) := of_decide_eq_true (by assumption)
  obtain ⟨ad193, e193, hx193_0⟩ := Kd.at_int HR1.out x17_1 p193 q193
  cases e193
  replace hx193_0 := (HB.out.cell (World.block_lt_of_cell? w _ hx193_0)).trans hx193_0
  replace p193 := eq_true p193
  replace q193 := eq_true q193
  go_wp2
  go_loopg [8, 9] k1 (fun kq v8 v9 w' => ∃ (x8_2 : Int) (x9_2 : Int) (x193000_2 : List Int) (u193000 : Value), v8 = .int .i64 x8_2 ∧ v9 = .int .i64 x9_2 ∧ Aside0 (spec_prRobin.l1 kq a0 x8_2 x9_2 l1 (l1.length : Int) x17_1 x193000_2 = some r) ∧ Aside0 (kq ≤ k1) ∧ Aside0 (Kd.R (Kd.int .i64) 3 w' w.heap.size (fun _ => True) u193000 x193000_2) ∧ Aside0 (w'.heap[gb188]? = some (.cells #[(.slice none 0 0)] 26 (0, 0))) ∧ Aside0 (w'.heap[gb192]? = some (.cells #[u193000] 26 (0, 0))) ∧ Aside0 (Below w.heap.size w w'))
  case atStart => exact ⟨(rd l1 x17_1), (Int.tmod (rd l1 x17_1) a0), (x193000_1), (u193000), sR_, sR_, H', ⟨Nat.le_refl _⟩, ⟨rr_ HO_193000⟩, ⟨kk_ BK188⟩, ⟨kk_ BK192⟩, ⟨bb_ HB⟩⟩
  case round =>
  clear H'
  try clear c1
  try clear c10b0
  try clear c11b0
  try clear c12b0
  try clear c13
  try clear c13b0
  try clear c13b1
  try clear hcz9_0
  try clear hfz9_0
  try clear hx193_0
  try clear p193
  try clear q193
  obtain ⟨x8_2, x9_2, x193000_2, u193000, rfl, rfl, HA, HK2, HO_193000, BK188, BK192, HB⟩ := hrel
  cases gk with
  | zero => exact absurd HA.out (by simp [spec_prRobin.l1])
  | succ k2 =>
  have H := HA.out
  clear HA
  simp only [spec_prRobin.l1] at H
  replace H := jd_ H; obtain ⟨c14b0, H⟩ := H
  replace H := jd_ H; obtain ⟨c15b0, H⟩ := H
  replace H := iq_ H; rcases H with ⟨c16b0, c16b1, H⟩ | ⟨c16b0, c16b1, c16, H⟩
  ·obtain ⟨y195, hy195⟩ : ∃ y_ : List Int, y_ = (x193000_2.set (x9_2 : Int).toNat x8_2) := ⟨_, rfl⟩
   replace H : (spec_prRobin.l0 k2 a0 l1 (l1.length : Int) (wrap64 (x17_1 + 1)) y195) = some r := yH_ hy195 H
   have Ny195 := aS_ hy195
   clear hy195
   have H' := aS_ H
   clear H
   have hnb18 := NB192_188.out
   have hnc18 := NB188_192.out
   obtain ⟨hcz19_0, hfz19_0⟩ := c10_ BK192
   obtain ⟨Ao20, co20, eo20⟩ := Kd.R_slice HO_193000.out
   subst eo20
   have p194 : 0 ≤ (x9_2 : Int) := of_decide_eq_true (by assumption)
   have q194 : x9_2 < (x193000_2.length : Int) := of_decide_eq_true (by assumption)
   obtain ⟨ad194, e194, hx194_0⟩ := Kd.at_int (Kd.R_reads' HO_193000.out).2.2 x9_2 p194 q194
   cases e194
   replace p194 := eq_true p194
   replace q194 := eq_true q194
   have p17 : 0 ≤ (x9_2 : Int) := of_decide_eq_true (by assumption)
   have q17 : (x9_2 : Int) < ((x193000_2.length : Int) : Int) := of_decide_eq_true (by assumption)
   obtain ⟨go17, co17, eo17, gb17, gl17, cl17, HG17⟩ := Kd.R_form HO_193000.out (by omega)
   (first | cases eo17 | (injection eo17 with ea_ en_ ec_; (first | subst ea_ | (injection ea_ with ea_; subst ea_)); subst ec_; clear en_))
   have GB17 := aS_ gb17
   have GG17 := aS_ HG17
   clear gb17 gl17 HG17
   (first | simp only [add_plain] at hx194_0 | skip)
   obtain ⟨hx17_0, hf17_0⟩ := Kd.R_celln 0 HO_193000.out (x9_2 : Int) p17 q17
   replace p17 := eq_true p17
   replace q17 := eq_true q17
   have HP21 := Kd.R_putg HO_193000.out (x9_2 : Int) x8_2
   go_wp2_with (first | ((with_reducible refine gate_store (t := 3) (p := 71) rfl ?_); refine store_event (t := 3) (p := 71) (v := ?vo_w22) (w1 := (wr.setCell ⟨go17, (x9_2 : Int).toNat, none⟩ (.int .i64 x8_2))) ?hg ?ho ?hn ?hr ?_; (case ho => rfl); (case hg => rfl); (case hn => rfl); (case hr => first | (go_simp; done) | (go_simp; rfl)); intro w22 hw; have hg : wr.grownBy w22 (some go17) := (by rw [hw]; exact HP21.2); have hp_ : Kd.R (Kd.int .i64) 3 w22 w.heap.size (fun _ => True) (.slice (some ⟨go17, 0, none⟩) x193000_2.length co20) y195 := (by rw [hw, Ny195.out]; exact HP21.1); clear HP21; replace BK188 := aS_ (blk_grown (g := gb188) (o := .cells #[.slice none 0 0] 26 (0, 0)) (kk_ BK188) hg (Kd.R_ne HO_193000.out BK188.out (by decide))); replace BK192 := aS_ (blk_grown (g := gb192) (o := .cells #[.slice (some ⟨go17, 0, none⟩) x193000_2.length co20] 26 (0, 0)) (kk_ BK192) hg (Kd.R_ne HO_193000.out BK192.out (by decide))); replace HO_193000 := aS_ (hp_); replace HB := aS_ ((by rw [hw]; exact bS_ (HB.out) GB17.out : Below w.heap.size w w22)); clear hg hw hp_))
   go_roundg k2
   case measure => have := HK1.out; have := HK2.out; omega
   case rel => exact ⟨(wrap64 (x17_1 + 1)), (y195), (.slice (some ⟨go17, 0, none⟩) x193000_2.length co20), sR_, H', ⟨by have := HK1.out; have := HK2.out; omega⟩, ⟨rr_ HO_193000⟩, ⟨kk_ BK188⟩, ⟨kk_ BK192⟩, ⟨bb_ HB⟩⟩
  replace H := bs_ H; obtain ⟨t197, A23, H⟩ := H
  replace H := bs_ H; obtain ⟨t198, A24, H⟩ := H
  replace H := id_ H; rcases H with ⟨c25b0, H⟩ | ⟨c25b0, H⟩
  ·obtain ⟨y199, hy199⟩ : ∃ y_ : List Int, y_ = (x193000_2.set (x9_2 : Int).toNat x8_2) := ⟨_, rfl⟩
   replace H : (if a0 = 0 then (none) else (spec_prRobin.l1 k2 a0 (rd x193000_2 x9_2) (Int.tmod (wrap64 (x9_2 + 1)) a0) l1 (l1.length : Int) x17_1 y199)) = some r := yH_ hy199 H
   have Ny199 := aS_ hy199
   clear hy199
   replace H := jn_ H; obtain ⟨c27, H⟩ := H
   have c27b0 : (a0 == 0) = false := beq_eq_false_iff_ne.mpr c27
   have c27b1 : (a0 != 0) = true := bne_iff_ne.mpr c27
   have H' := aS_ H
   clear H
   have hnb28 := NB192_188.out
   have hnc28 := NB188_192.out
   obtain ⟨hcz29_0, hfz29_0⟩ := c10_ BK192
   obtain ⟨Ao30, co30, eo30⟩ := Kd.R_slice HO_193000.out
   subst eo30
   have p194 : 0 ≤ (x9_2 : Int) := of_decide_eq_true (by assumption)
   have q194 : x9_2 < (x193000_2.length : Int) := of_decide_eq_true (by assumption)
   obtain ⟨ad194, e194, hx194_0⟩ := Kd.at_int (Kd.R_reads' HO_193000.out).2.2 x9_2 p194 q194
   cases e194
   replace p194 := eq_true p194
   replace q194 := eq_true q194
   have p196 : 0 ≤ (x9_2 : Int) := of_decide_eq_true (by assumption)
   have q196 : x9_2 < (x193000_2.length : Int) := of_decide_eq_true (by assumption)
   obtain ⟨ad196, e196, hx196_0⟩ := Kd.at_int (Kd.R_reads' HO_193000.out).2.2 x9_2 p196 q196
   obtain rfl : ad194 = ad196 := (by injection e196)
   replace p196 := eq_true p196
   replace q196 := eq_true q196
   go_wp2_with (first | ((with_reducible refine gg_ ?_); refine gc_ 68 (some 39) Tryz.func68 #[.int .i64 x8_2, .int .i64 x9_2, .int .i64 a0] ?_; (with_reducible refine (spec_prCost.calls x8_2 x9_2 a0 t197 _ A23.out).mono ?_); rintro e w' ⟨rfl, ⟨nd, rfl⟩⟩; refine ⟨_, rfl, ?_⟩; (try (rw [drewN_self wr]; generalize hq_ : World.drewN wr _ = wr; have n0_ : Aside0 (Kd.R (Kd.int .i64) 3 wr w.heap.size (fun _ => True) (.slice (some ad194) x193000_2.length co30) x193000_2) := ⟨by rw [← hq_]; exact (rr_ HO_193000)⟩; have n1_ : Aside0 (wr.heap[gb188]? = some (.cells #[.slice none 0 0] 26 (0, 0))) := ⟨by rw [← hq_]; exact (kk_ BK188)⟩; have n2_ : Aside0 (wr.heap[gb192]? = some (.cells #[.slice (some ad194) x193000_2.length co30] 26 (0, 0))) := ⟨by rw [← hq_]; exact (kk_ BK192)⟩; have n3_ : Aside0 (Below w.heap.size w wr) := ⟨by rw [← hq_]; exact (bb_ HB)⟩; clear HO_193000 BK188 BK192 HB hq_; have HO_193000 := n0_; have BK188 := n1_; have BK192 := n2_; have HB := n3_; clear n0_ n1_ n2_ n3_))) | ((with_reducible refine gg_ ?_); refine gc_ 68 (some 43) Tryz.func68 #[.int .i64 (rd x193000_2 x9_2), .int .i64 x9_2, .int .i64 a0] ?_; (with_reducible refine (spec_prCost.calls (rd x193000_2 x9_2) x9_2 a0 t198 _ A24.out).mono ?_); rintro e w' ⟨rfl, ⟨nd, rfl⟩⟩; refine ⟨_, rfl, ?_⟩; (try (rw [drewN_self wr]; generalize hq_ : World.drewN wr _ = wr; have n0_ : Aside0 (Kd.R (Kd.int .i64) 3 wr w.heap.size (fun _ => True) (.slice (some ad194) x193000_2.length co30) x193000_2) := ⟨by rw [← hq_]; exact (rr_ HO_193000)⟩; have n1_ : Aside0 (wr.heap[gb188]? = some (.cells #[.slice none 0 0] 26 (0, 0))) := ⟨by rw [← hq_]; exact (kk_ BK188)⟩; have n2_ : Aside0 (wr.heap[gb192]? = some (.cells #[.slice (some ad194) x193000_2.length co30] 26 (0, 0))) := ⟨by rw [← hq_]; exact (kk_ BK192)⟩; have n3_ : Aside0 (Below w.heap.size w wr) := ⟨by rw [← hq_]; exact (bb_ HB)⟩; clear HO_193000 BK188 BK192 HB hq_; have HO_193000 := n0_; have BK188 := n1_; have BK192 := n2_; have HB := n3_; clear n0_ n1_ n2_ n3_)); have p26 : 0 ≤ (x9_2 : Int) := of_decide_eq_true (by assumption); have q26 : (x9_2 : Int) < ((x193000_2.length : Int) : Int) := of_decide_eq_true (by assumption); obtain ⟨go26, co26, eo26, gb26, gl26, cl26, HG26⟩ := Kd.R_form HO_193000.out (by omega); (first | cases eo26 | (injection eo26 with ea_ en_ ec_; (first | subst ea_ | (injection ea_ with ea_; subst ea_)); subst ec_; clear en_)); have GB26 := aS_ gb26; have GG26 := aS_ HG26; clear gb26 gl26 HG26; (first | simp only [add_plain] at hx194_0 | skip); (first | simp only [add_plain] at hx196_0 | skip); obtain ⟨hx26_0, hf26_0⟩ := Kd.R_celln 0 HO_193000.out (x9_2 : Int) p26 q26; replace p26 := eq_true p26; replace q26 := eq_true q26; obtain ⟨hy31_, hz31_⟩ := Kd.R_celln 0 HO_193000.out (x9_2 : Int) (of_decide_eq_true (by assumption)) (of_decide_eq_true (by assumption)); have HP31 := Kd.R_putg HO_193000.out (x9_2 : Int) x8_2; obtain ⟨hcz99_0, hfz99_0⟩ := c10_ BK192) | ((with_reducible refine gate_store (t := 3) (p := 61) rfl ?_); refine store_event (t := 3) (p := 61) (v := ?vo_w32) (w1 := (wr.setCell ⟨go26, (x9_2 : Int).toNat, none⟩ (.int .i64 x8_2))) ?hg ?ho ?hn ?hr ?_; (case ho => rfl); (case hg => rfl); (case hn => rfl); (case hr => first | (go_simp; done) | (go_simp; rfl)); intro w32 hw; have hg : wr.grownBy w32 (some go26) := (by rw [hw]; exact HP31.2); have hp_ : Kd.R (Kd.int .i64) 3 w32 w.heap.size (fun _ => True) (.slice (some ⟨go26, 0, none⟩) x193000_2.length co30) y199 := (by rw [hw, Ny199.out]; exact HP31.1); clear HP31; replace BK188 := aS_ (blk_grown (g := gb188) (o := .cells #[.slice none 0 0] 26 (0, 0)) (kk_ BK188) hg (Kd.R_ne HO_193000.out BK188.out (by decide))); replace BK192 := aS_ (blk_grown (g := gb192) (o := .cells #[.slice (some ⟨go26, 0, none⟩) x193000_2.length co30] 26 (0, 0)) (kk_ BK192) hg (Kd.R_ne HO_193000.out BK192.out (by decide))); replace HO_193000 := aS_ (hp_); replace HB := aS_ ((by rw [hw]; exact bS_ (HB.out) GB26.out : Below w.heap.size w w32)); clear hg hw hp_))
   go_roundg k2
   case measure => have := HK1.out; have := HK2.out; omega
   case rel => exact ⟨(rd x193000_2 x9_2), (Int.tmod (wrap64 (x9_2 + 1)) a0), (y199), (.slice (some ⟨go26, 0, none⟩) x193000_2.length co30), sR_, sR_, H', ⟨by have := HK1.out; have := HK2.out; omega⟩, ⟨rr_ HO_193000⟩, ⟨kk_ BK188⟩, ⟨kk_ BK192⟩, ⟨bb_ HB⟩⟩
  replace H := iq_ H; rcases H with ⟨c33b0, c33b1, H⟩ | ⟨c33b0, c33b1, c33, H⟩
  ·replace H := id_ H; rcases H with ⟨c34b0, H⟩ | ⟨c34b0, H⟩
   ·obtain ⟨y200, hy200⟩ : ∃ y_ : List Int, y_ = (x193000_2.set (x9_2 : Int).toNat x8_2) := ⟨_, rfl⟩
    replace H : (if a0 = 0 then (none) else (spec_prRobin.l1 k2 a0 (rd x193000_2 x9_2) (Int.tmod (wrap64 (x9_2 + 1)) a0) l1 (l1.length : Int) x17_1 y200)) = some r := yH_ hy200 H
    have Ny200 := aS_ hy200
    clear hy200
    replace H := jn_ H; obtain ⟨c36, H⟩ := H
    have c36b0 : (a0 == 0) = false := beq_eq_false_iff_ne.mpr c36
    have c36b1 : (a0 != 0) = true := bne_iff_ne.mpr c36
    have H' := aS_ H
    clear H
    have hnb37 := NB192_188.out
    have hnc37 := NB188_192.out
    obtain ⟨hcz38_0, hfz38_0⟩ := c10_ BK192
    obtain ⟨Ao39, co39, eo39⟩ := Kd.R_slice HO_193000.out
    subst eo39
    have p194 : 0 ≤ (x9_2 : Int) := of_decide_eq_true (by assumption)
    have q194 : x9_2 < (x193000_2.length : Int) := of_decide_eq_true (by assumption)
    obtain ⟨ad194, e194, hx194_0⟩ := Kd.at_int (Kd.R_reads' HO_193000.out).2.2 x9_2 p194 q194
    cases e194
    replace p194 := eq_true p194
    replace q194 := eq_true q194
    have p196 : 0 ≤ (x9_2 : Int) := of_decide_eq_true (by assumption)
    have q196 : x9_2 < (x193000_2.length : Int) := of_decide_eq_true (by assumption)
    obtain ⟨ad196, e196, hx196_0⟩ := Kd.at_int (Kd.R_reads' HO_193000.out).2.2 x9_2 p196 q196
    obtain rfl : ad194 = ad196 := (by injection e196)
    replace p196 := eq_true p196
    replace q196 := eq_true q196
    go_wp2_with (first | ((with_reducible refine gg_ ?_); refine gc_ 68 (some 39) Tryz.func68 #[.int .i64 x8_2, .int .i64 x9_2, .int .i64 a0] ?_; (with_reducible refine (spec_prCost.calls x8_2 x9_2 a0 t197 _ A23.out).mono ?_); rintro e w' ⟨rfl, ⟨nd, rfl⟩⟩; refine ⟨_, rfl, ?_⟩; (try (rw [drewN_self wr]; generalize hq_ : World.drewN wr _ = wr; have n0_ : Aside0 (Kd.R (Kd.int .i64) 3 wr w.heap.size (fun _ => True) (.slice (some ad194) x193000_2.length co39) x193000_2) := ⟨by rw [← hq_]; exact (rr_ HO_193000)⟩; have n1_ : Aside0 (wr.heap[gb188]? = some (.cells #[.slice none 0 0] 26 (0, 0))) := ⟨by rw [← hq_]; exact (kk_ BK188)⟩; have n2_ : Aside0 (wr.heap[gb192]? = some (.cells #[.slice (some ad194) x193000_2.length co39] 26 (0, 0))) := ⟨by rw [← hq_]; exact (kk_ BK192)⟩; have n3_ : Aside0 (Below w.heap.size w wr) := ⟨by rw [← hq_]; exact (bb_ HB)⟩; clear HO_193000 BK188 BK192 HB hq_; have HO_193000 := n0_; have BK188 := n1_; have BK192 := n2_; have HB := n3_; clear n0_ n1_ n2_ n3_))) | ((with_reducible refine gg_ ?_); refine gc_ 68 (some 43) Tryz.func68 #[.int .i64 (rd x193000_2 x9_2), .int .i64 x9_2, .int .i64 a0] ?_; (with_reducible refine (spec_prCost.calls (rd x193000_2 x9_2) x9_2 a0 t198 _ A24.out).mono ?_); rintro e w' ⟨rfl, ⟨nd, rfl⟩⟩; refine ⟨_, rfl, ?_⟩; (try (rw [drewN_self wr]; generalize hq_ : World.drewN wr _ = wr; have n0_ : Aside0 (Kd.R (Kd.int .i64) 3 wr w.heap.size (fun _ => True) (.slice (some ad194) x193000_2.length co39) x193000_2) := ⟨by rw [← hq_]; exact (rr_ HO_193000)⟩; have n1_ : Aside0 (wr.heap[gb188]? = some (.cells #[.slice none 0 0] 26 (0, 0))) := ⟨by rw [← hq_]; exact (kk_ BK188)⟩; have n2_ : Aside0 (wr.heap[gb192]? = some (.cells #[.slice (some ad194) x193000_2.length co39] 26 (0, 0))) := ⟨by rw [← hq_]; exact (kk_ BK192)⟩; have n3_ : Aside0 (Below w.heap.size w wr) := ⟨by rw [← hq_]; exact (bb_ HB)⟩; clear HO_193000 BK188 BK192 HB hq_; have HO_193000 := n0_; have BK188 := n1_; have BK192 := n2_; have HB := n3_; clear n0_ n1_ n2_ n3_)); have p35 : 0 ≤ (x9_2 : Int) := of_decide_eq_true (by assumption); have q35 : (x9_2 : Int) < ((x193000_2.length : Int) : Int) := of_decide_eq_true (by assumption); obtain ⟨go35, co35, eo35, gb35, gl35, cl35, HG35⟩ := Kd.R_form HO_193000.out (by omega); (first | cases eo35 | (injection eo35 with ea_ en_ ec_; (first | subst ea_ | (injection ea_ with ea_; subst ea_)); subst ec_; clear en_)); have GB35 := aS_ gb35; have GG35 := aS_ HG35; clear gb35 gl35 HG35; (first | simp only [add_plain] at hx194_0 | skip); (first | simp only [add_plain] at hx196_0 | skip); obtain ⟨hx35_0, hf35_0⟩ := Kd.R_celln 0 HO_193000.out (x9_2 : Int) p35 q35; replace p35 := eq_true p35; replace q35 := eq_true q35; obtain ⟨hy40_, hz40_⟩ := Kd.R_celln 0 HO_193000.out (x9_2 : Int) (of_decide_eq_true (by assumption)) (of_decide_eq_true (by assumption)); have HP40 := Kd.R_putg HO_193000.out (x9_2 : Int) x8_2; obtain ⟨hcz99_0, hfz99_0⟩ := c10_ BK192) | ((with_reducible refine gate_store (t := 3) (p := 61) rfl ?_); refine store_event (t := 3) (p := 61) (v := ?vo_w41) (w1 := (wr.setCell ⟨go35, (x9_2 : Int).toNat, none⟩ (.int .i64 x8_2))) ?hg ?ho ?hn ?hr ?_; (case ho => rfl); (case hg => rfl); (case hn => rfl); (case hr => first | (go_simp; done) | (go_simp; rfl)); intro w41 hw; have hg : wr.grownBy w41 (some go35) := (by rw [hw]; exact HP40.2); have hp_ : Kd.R (Kd.int .i64) 3 w41 w.heap.size (fun _ => True) (.slice (some ⟨go35, 0, none⟩) x193000_2.length co39) y200 := (by rw [hw, Ny200.out]; exact HP40.1); clear HP40; replace BK188 := aS_ (blk_grown (g := gb188) (o := .cells #[.slice none 0 0] 26 (0, 0)) (kk_ BK188) hg (Kd.R_ne HO_193000.out BK188.out (by decide))); replace BK192 := aS_ (blk_grown (g := gb192) (o := .cells #[.slice (some ⟨go35, 0, none⟩) x193000_2.length co39] 26 (0, 0)) (kk_ BK192) hg (Kd.R_ne HO_193000.out BK192.out (by decide))); replace HO_193000 := aS_ (hp_); replace HB := aS_ ((by rw [hw]; exact bS_ (HB.out) GB35.out : Below w.heap.size w w41)); clear hg hw hp_))
    go_roundg k2
    case measure => have := HK1.out; have := HK2.out; omega
    case rel => exact ⟨(rd x193000_2 x9_2), (Int.tmod (wrap64 (x9_2 + 1)) a0), (y200), (.slice (some ⟨go35, 0, none⟩) x193000_2.length co39), sR_, sR_, H', ⟨by have := HK1.out; have := HK2.out; omega⟩, ⟨rr_ HO_193000⟩, ⟨kk_ BK188⟩, ⟨kk_ BK192⟩, ⟨bb_ HB⟩⟩
   replace H := jn_ H; obtain ⟨c42, H⟩ := H
   have c42b0 : (a0 == 0) = false := beq_eq_false_iff_ne.mpr c42
   have c42b1 : (a0 != 0) = true := bne_iff_ne.mpr c42
   have H' := aS_ H
   clear H
   have hnb43 := NB192_188.out
   have hnc43 := NB188_192.out
   obtain ⟨hcz44_0, hfz44_0⟩ := c10_ BK192
   obtain ⟨Ao45, co45, eo45⟩ := Kd.R_slice HO_193000.out
   subst eo45
   have p194 : 0 ≤ (x9_2 : Int) := of_decide_eq_true (by assumption)
   have q194 : x9_2 < (x193000_2.length : Int) := of_decide_eq_true (by assumption)
   obtain ⟨ad194, e194, hx194_0⟩ := Kd.at_int (Kd.R_reads' HO_193000.out).2.2 x9_2 p194 q194
   cases e194
   replace p194 := eq_true p194
   replace q194 := eq_true q194
   have p196 : 0 ≤ (x9_2 : Int) := of_decide_eq_true (by assumption)
   have q196 : x9_2 < (x193000_2.length : Int) := of_decide_eq_true (by assumption)
   obtain ⟨ad196, e196, hx196_0⟩ := Kd.at_int (Kd.R_reads' HO_193000.out).2.2 x9_2 p196 q196
   obtain rfl : ad194 = ad196 := (by injection e196)
   replace p196 := eq_true p196
   replace q196 := eq_true q196
   go_wp2_with (first | ((with_reducible refine gg_ ?_); refine gc_ 68 (some 39) Tryz.func68 #[.int .i64 x8_2, .int .i64 x9_2, .int .i64 a0] ?_; (with_reducible refine (spec_prCost.calls x8_2 x9_2 a0 t197 _ A23.out).mono ?_); rintro e w' ⟨rfl, ⟨nd, rfl⟩⟩; refine ⟨_, rfl, ?_⟩) | ((with_reducible refine gg_ ?_); refine gc_ 68 (some 43) Tryz.func68 #[.int .i64 (rd x193000_2 x9_2), .int .i64 x9_2, .int .i64 a0] ?_; (with_reducible refine (spec_prCost.calls (rd x193000_2 x9_2) x9_2 a0 t198 _ A24.out).mono ?_); rintro e w' ⟨rfl, ⟨nd, rfl⟩⟩; refine ⟨_, rfl, ?_⟩))
   go_roundg k2
   case measure => have := HK1.out; have := HK2.out; omega
   case rel => exact ⟨(x8_2), (Int.tmod (wrap64 (x9_2 + 1)) a0), (x193000_2), (.slice (some ad194) x193000_2.length co45), sR_, sR_, H', ⟨by have := HK1.out; have := HK2.out; omega⟩, ⟨rr_ HO_193000⟩, ⟨kk_ BK188⟩, ⟨kk_ BK192⟩, ⟨bb_ HB⟩⟩
  replace H := jn_ H; obtain ⟨c46, H⟩ := H
  have c46b0 : (a0 == 0) = false := beq_eq_false_iff_ne.mpr c46
  have c46b1 : (a0 != 0) = true := bne_iff_ne.mpr c46
  have H' := aS_ H
  clear H
  have hnb47 := NB192_188.out
  have hnc47 := NB188_192.out
  obtain ⟨hcz48_0, hfz48_0⟩ := c10_ BK192
  obtain ⟨Ao49, co49, eo49⟩ := Kd.R_slice HO_193000.out
  subst eo49
  have p194 : 0 ≤ (x9_2 : Int) := of_decide_eq_true (by assumption)
  have q194 : x9_2 < (x193000_2.length : Int) := of_decide_eq_true (by assumption)
  obtain ⟨ad194, e194, hx194_0⟩ := Kd.at_int (Kd.R_reads' HO_193000.out).2.2 x9_2 p194 q194
  cases e194
  replace p194 := eq_true p194
  replace q194 := eq_true q194
  have p196 : 0 ≤ (x9_2 : Int) := of_decide_eq_true (by assumption)
  have q196 : x9_2 < (x193000_2.length : Int) := of_decide_eq_true (by assumption)
  obtain ⟨ad196, e196, hx196_0⟩ := Kd.at_int (Kd.R_reads' HO_193000.out).2.2 x9_2 p196 q196
  obtain rfl : ad194 = ad196 := (by injection e196)
  replace p196 := eq_true p196
  replace q196 := eq_true q196
  go_wp2_with (first | ((with_reducible refine gg_ ?_); refine gc_ 68 (some 39) Tryz.func68 #[.int .i64 x8_2, .int .i64 x9_2, .int .i64 a0] ?_; (with_reducible refine (spec_prCost.calls x8_2 x9_2 a0 t197 _ A23.out).mono ?_); rintro e w' ⟨rfl, ⟨nd, rfl⟩⟩; refine ⟨_, rfl, ?_⟩) | ((with_reducible refine gg_ ?_); refine gc_ 68 (some 43) Tryz.func68 #[.int .i64 (rd x193000_2 x9_2), .int .i64 x9_2, .int .i64 a0] ?_; (with_reducible refine (spec_prCost.calls (rd x193000_2 x9_2) x9_2 a0 t198 _ A24.out).mono ?_); rintro e w' ⟨rfl, ⟨nd, rfl⟩⟩; refine ⟨_, rfl, ?_⟩))
  go_roundg k2
  case measure => have := HK1.out; have := HK2.out; omega
  case rel => exact ⟨(x8_2), (Int.tmod (wrap64 (x9_2 + 1)) a0), (x193000_2), (.slice (some ad194) x193000_2.length co49), sR_, sR_, H', ⟨by have := HK1.out; have := HK2.out; omega⟩, ⟨rr_ HO_193000⟩, ⟨kk_ BK188⟩, ⟨kk_ BK192⟩, ⟨bb_ HB⟩⟩
 obtain rfl := Option.some.inj H
 have hnb50 := NB192_188.out
 have hnc50 := NB188_192.out
 obtain ⟨hcz51_0, hfz51_0⟩ := c10_ BK192
 obtain ⟨Ao52, co52, eo52⟩ := Kd.R_slice HO_193000.out
 subst eo52
 obtain ⟨hcz53_0, hfz53_0⟩ := c10_ BK188
 go_wp2
 refine bodyPost_ret (results_cell_row rfl _ _ gb188 26 #[.slice Ao52 x193000_1.length co52] (0, 0) _ rfl (by (with_reducible repeat (first | refine kN_ ?_ _ | refine kD_ ?_ | refine kA_ ?_ _)); refine blk_put (cs := #[.slice none 0 0]) ?_ 0 _ rfl; (with_reducible repeat (first | refine kN_ ?_ _ | refine kD_ ?_ | refine kA_ ?_ _)); exact BK188.out) Tryz.underlying26 rfl (by kernel_rfl)) rfl ?_
 exact ⟨_, by first | rfl | (simp [errW_none, errW_some] <;> rfl) | (simp [*, errW_none, errW_some] <;> rfl), by (with_reducible repeat (first | apply rA_ | apply rN_ | apply rD_)); exact Kd.R_mono (Kd.R_far (p := ⟨gb188, 0, none⟩) (Kd.R_types HO_193000.out BK188.out (by decide)) (fun _ hk => hk.2) (.slice Ao52 x193000_1.length co52)) (fun _ hk => trivial), bb_ HB⟩
/-! ### spec_l1Cur_table: function 53 -/
def spec_l1Cur_table.j0 : Nat → Int → List Int → Int → Int → List Int → Option (List Int × Int × Int)
 | 0, _, _, _, _, _ => none
 | k + 1, x3, x1000, x1001, x1002, x213000 => (spec_l1Cur_one.f x1000 x1001 x1002 12).bind fun bt219 => (if bt219.1 = true then ((spec_l1Cur_pick.f x1000 bt219.2.1 bt219.2.2 x3).bind fun bt222 => ((spec_l1Cur_among.f x1000 bt222.2.1 bt222.2.2 (([(-1), (-2), 0, 5, 1000] : List Int))).bind fun bt228 => (if 0 ≤ bt222.1 then (if bt222.1 < (x213000.length : Int) then (some ((x213000.set (bt222.1 : Int).toNat bt228.1), bt228.2.1, bt228.2.2)) else (none)) else (none)))) else (some (x213000, bt219.2.1, bt219.2.2)))
def spec_l1Cur_table.f (k : Nat) (s0_0 : List Int) (s0_1 : Int) (s0_2 : Int) : Option (List Int × Int × Int) := (spec_l1Cur_keys.f k s0_0 s0_1 s0_2).bind fun bt202 => ((spec_prKeys.f k bt202.1 bt202.2.1).bind fun t208 => (if t208 = true then ((spec_prOf.f k bt202.1 bt202.2.1).bind fun t209 => ((spec_l1Cur_one.f s0_0 bt202.2.2.1 bt202.2.2.2 3).bind fun bt213 => (if bt213.1 = true then ((spec_prRobin.f k bt202.1 bt202.2.1).bind fun t216 => (spec_l1Cur_table.j0 k bt202.1 s0_0 bt213.2.1 bt213.2.2 t216)) else (spec_l1Cur_table.j0 k bt202.1 s0_0 bt213.2.1 bt213.2.2 t209)))) else (some (bt202.2.1, bt202.2.2.1, bt202.2.2.2))))
theorem spec_l1Cur_table.mono_l : ∀ k, (∀ y0 y1 y2 y3 y4, LeO (spec_l1Cur_table.j0 k y0 y1 y2 y3 y4) (spec_l1Cur_table.j0 (k + 1) y0 y1 y2 y3 y4))
 | 0 => fun _ _ _ _ _ r h => by simp [spec_l1Cur_table.j0] at h
 | k + 1 => by
  have ih0 := spec_l1Cur_table.mono_l k
  intro y0 y1 y2 y3 y4
  unfold spec_l1Cur_table.j0
  exact mo5_ ih0 spec_l1Cur_keys.mono spec_prKeys.mono spec_prOf.mono spec_prRobin.mono
theorem spec_l1Cur_table.mono : ∀ a0 a1 a2 k, LeO (spec_l1Cur_table.f k a0 a1 a2) (spec_l1Cur_table.f (k + 1) a0 a1 a2) := by
 intro a0 a1 a2 k
 have ih0 := spec_l1Cur_table.mono_l k
 unfold spec_l1Cur_table.f
 exact mo5_ ih0 spec_l1Cur_keys.mono spec_prKeys.mono spec_prOf.mono spec_prRobin.mono
def spec_l1Cur_table.T8 : Bool × List (List Nat × List Nat) := (true, [([], []), ([0], [0]), ([], []), ([], []), ([2, 3], [2, 3]), ([], []), ([], []), ([5, 6, 4], [5, 6]), ([1, 4, 0, 1, 2, 3, 4, 5, 6, 7], [1, 4]), ([8, 7, 7, 0, 1, 2, 3, 4, 5, 6, 7], [7, 8])])
def spec_l1Cur_table.B8 : List Nat := [0, 1, 0, 0, 12, 0, 0, 124, 255, 511]
theorem spec_l1Cur_table.tab8 : rtab .any (opsOf Tryz.f53 8) = spec_l1Cur_table.T8 := by kernel_rfl
theorem spec_l1Cur_table.bits8 : waitsOk spec_l1Cur_table.T8.2 spec_l1Cur_table.B8 = true := by kernel_rfl
set_option maxHeartbeats 8000000 in
set_option maxRecDepth 100000 in
theorem spec_l1Cur_table.calls (k : Nat) (g : Nat) (s0_0 : List Int) (s0_1 : Int) (s0_2 : Int) (r1 : List Int) (r2 : Int) (r3 : Int) (w0 w : World) (hI : IsS69 w0 w g s0_0 s0_1 s0_2) (hB : Below w0.heap.size w0 w) (h : spec_l1Cur_table.f k s0_0 s0_1 s0_2 = some (r1, r2, r3)) :
  Calls Tryz.prog 53 #[.pointer (some ⟨g, 0, none⟩)] w fun e w' => ∃ v0_ : Value, e = .returned (.agg #[v0_]) ∧ Kd.R (Kd.int .i64) 3 w' w.heap.size (fun _ => True) v0_ r1 ∧ IsS69 w0 w' g s0_0 r2 r3 ∧ Below w0.heap.size w0 w' ∧ KeepBut w w' g none := by
 have hu26 := Tryz.underlying26
 have HI0 := aS_ hI
 have HK := aS_ (KeepBut.refl w g none)
 have HL := aS_ hB.size
 clear hI
 have HW0 := aS_ hB.size
 have HB := aS_ hB
 clear hB
 have H : ((spec_l1Cur_keys.f k s0_0 s0_1 s0_2).bind fun bt202 => ((spec_prKeys.f k bt202.1 bt202.2.1).bind fun t208 => (if t208 = true then ((spec_prOf.f k bt202.1 bt202.2.1).bind fun t209 => ((spec_l1Cur_one.f s0_0 bt202.2.2.1 bt202.2.2.2 3).bind fun bt213 => (if bt213.1 = true then ((spec_prRobin.f k bt202.1 bt202.2.1).bind fun t216 => (spec_l1Cur_table.j0 k bt202.1 s0_0 bt213.2.1 bt213.2.2 t216)) else (spec_l1Cur_table.j0 k bt202.1 s0_0 bt213.2.1 bt213.2.2 t209)))) else (some (bt202.2.1, bt202.2.2.1, bt202.2.2.2))))) = some (r1, r2, r3) := h
 clear h
 replace H := bs_ H; obtain ⟨⟨t202, t203, t206, t207⟩, A2, H⟩ := H
 replace H := bs_ H; obtain ⟨t208, A3, H⟩ := H
 replace H := it_ H; rcases H with ⟨rfl, H⟩ | ⟨rfl, H⟩
 ·replace H := bs_ H; obtain ⟨t209, A5, H⟩ := H
  replace H := bs_ H; obtain ⟨⟨t213, t214, t215⟩, A6, H⟩ := H
  have HC7 := aS_ H
  clear H
  go_enter Tryz.func53, Tryz.ntmps53
  go_upto_if 21 with (first | ((with_reducible refine gg_ ?_); refine bx_ 2 #[.slice none 0 0] 26 ?_; intro gb201 hg w8 hbox hb; replace HB := aS_ (below_step (bI_ HB HI0) hb); have BK201 := aS_ (hbox); have GW201 := aS_ ((by rw [hg]; exact (keep_size (w := w) (g := g) (row := none) (hh_ HK)) : w.heap.size ≤ gb201)); have GE201 := aS_ ((Nat.le_trans HW0.out (by rw [hg]; exact (keep_size (w := w) (g := g) (row := none) (hh_ HK)) : w.heap.size ≤ gb201) : w0.heap.size ≤ gb201)); replace HK := aS_ (KeepBut.trans (hh_ HK) (KeepBut.of_below hb g none) (.inl rfl)); have NB0_201 := aS_ ((by rw [hg]; exact Nat.ne_of_lt (IsS69.lt (show IsS69 w0 _ g s0_0 s0_1 s0_2 from ss_ HI0)) : g ≠ gb201)); have NB201_0 := aS_ ((by rw [hg]; exact Nat.ne_of_gt (IsS69.lt (show IsS69 w0 _ g s0_0 s0_1 s0_2 from ss_ HI0)) : gb201 ≠ g)); replace HI0 := aS_ (IsS69.below (ss_ HI0) hb); clear hb hbox hg) | ((with_reducible refine gg_ ?_); refine gc_ 84 (some 8) Tryz.func84 #[.pointer (some ⟨g, 0, none⟩)] ?_; (with_reducible refine (spec_l1Cur_keys.calls k g s0_0 s0_1 s0_2 t202 t203 t206 t207 w0 _ ?side1 ?side2 A2.out).mono ?_); (case side1 => exact ss_ HI0); (case side2 => repeat (first | (with_reducible first | exact HB.out | apply bA_ | apply pN_ | apply bD_ | refine bS_ ?_ (IsS69.ge HI0.out) | refine bS_ ?_ GE201.out) | exact HB.out)); rintro e w9 ⟨v204, rfl, ho0, hi, hb, hk⟩; refine ⟨_, rfl, ?_⟩; replace BK201 := aS_ (KeepBut.blk hk (g' := gb201) (o := .cells #[.slice none 0 0] 26 (0, 0)) (kk_ BK201) NB201_0.out (by simp)); have HO205 := aS_ (Kd.R_lower ho0 (keep_size (w := w) (g := g) (row := none) (hh_ HK))); replace HK := aS_ (KeepBut.trans (hh_ HK) hk (.inl rfl)); replace HB := aS_ (hb); replace HI0 := aS_ (hi); (try clear hb); (try clear hk); (try clear hi); (try clear ho0); obtain ⟨Ao10, co10, eo10⟩ := Kd.R_slice HO205.out; subst eo10) | ((with_reducible refine gg_ ?_); refine gc_ 85 (some 13) Tryz.func85 #[.int .i64 t202, .slice Ao10 t203.length co10] ?_; (with_reducible refine (spec_prKeys.calls k t202 _ _ t203 true _ ?side1 ?side2 A3.out).mono ?_); (case side1 => exact cR_ HO205); (case side2 => exact (Kd.R_reads' HO205.out).2.1); rintro e w' ⟨rfl, ⟨nd, rfl⟩⟩; refine ⟨_, rfl, ?_⟩; (try (rw [drewN_self w9]; generalize hq_ : World.drewN w9 _ = w9; have n0_ : Aside0 (Kd.R (Kd.int .i64) 3 w9 w.heap.size (fun _ => True) (.slice Ao10 t203.length co10) t203) := ⟨by rw [← hq_]; exact (rr_ HO205)⟩; have n1_ : Aside0 (w9.heap[gb201]? = some (.cells #[.slice none 0 0] 26 (0, 0))) := ⟨by rw [← hq_]; exact (kk_ BK201)⟩; have n2_ : Aside0 (IsS69 w0 w9 g s0_0 t206 t207) := ⟨by rw [← hq_]; exact (ss_ HI0)⟩; have n3_ : Aside0 (KeepBut w w9 g none) := ⟨by rw [← hq_]; exact (hh_ HK)⟩; have n4_ : Aside0 (Below w0.heap.size w0 w9) := ⟨by rw [← hq_]; exact (by repeat (first | (with_reducible first | exact HB.out | apply bA_ | apply pN_ | apply bD_ | refine bS_ ?_ (IsS69.ge HI0.out) | refine bS_ ?_ GE201.out) | exact HB.out))⟩; clear HO205 BK201 HI0 HK HB hq_; have HO205 := n0_; have BK201 := n1_; have HI0 := n2_; have HK := n3_; have HB := n4_; clear n0_ n1_ n2_ n3_ n4_))) | ((with_reducible refine gg_ ?_); refine gc_ 86 (some 19) Tryz.func86 #[.int .i64 t202, .slice Ao10 t203.length co10] ?_; (with_reducible refine (spec_prOf.calls k t202 _ _ t203 t209 _ ?side1 ?side2 A5.out).mono ?_); (case side1 => exact cR_ HO205); (case side2 => exact (Kd.R_reads' HO205.out).2.1); rintro e w11 ⟨v210, rfl, ho0, hb⟩; refine ⟨_, rfl, ?_⟩; have HO211 := aS_ (Kd.R_lower (Kd.R_new' ho0 (Kd.R_lt (rr_ HO205))) (keep_size (w := w) (g := g) (row := none) (hh_ HK))); replace HO205 := aS_ (Kd.R_elder' (rr_ HO205) (Kd.R_base ho0) hb); replace BK201 := kO_ BK201 hb; replace HK := aS_ (KeepBut.trans (hh_ HK) (KeepBut.of_below hb g none) (.inl rfl)); replace HB := aS_ (below_step (by repeat (first | (with_reducible first | exact HB.out | apply bA_ | apply pN_ | apply bD_ | refine bS_ ?_ (IsS69.ge HI0.out) | refine bS_ ?_ GE201.out) | exact HB.out)) hb); replace HI0 := aS_ (IsS69.below (ss_ HI0) hb); (try clear hb); (try clear ho0)) | ((with_reducible refine gg_ ?_); refine bx_ 5 #[.slice none 0 0] 26 ?_; intro gb212 hg w12 hbox hb; replace HO205 := aS_ (Kd.R_below (rr_ HO205) hb); replace HO211 := aS_ (Kd.R_below (rr_ HO211) hb); replace HB := aS_ (below_step (by repeat (first | (with_reducible first | exact HB.out | apply bA_ | apply pN_ | apply bD_ | refine bS_ ?_ (IsS69.ge HI0.out) | refine bS_ ?_ GE201.out) | exact HB.out)) hb); have BK212 := aS_ (hbox); have GW212 := aS_ ((by rw [hg]; exact (keep_size (w := w) (g := g) (row := none) (hh_ HK)) : w.heap.size ≤ gb212)); have GE212 := aS_ ((Nat.le_trans HW0.out (by rw [hg]; exact (keep_size (w := w) (g := g) (row := none) (hh_ HK)) : w.heap.size ≤ gb212) : w0.heap.size ≤ gb212)); replace HK := aS_ (KeepBut.trans (hh_ HK) (KeepBut.of_below hb g none) (.inl rfl)); have NB201_212 := nL_ BK201 hg; have NB212_201 := nG_ BK201 hg; replace BK201 := kO_ BK201 hb; have NB0_212 := aS_ ((by rw [hg]; exact Nat.ne_of_lt (IsS69.lt (show IsS69 w0 _ g s0_0 t206 t207 from ss_ HI0)) : g ≠ gb212)); have NB212_0 := aS_ ((by rw [hg]; exact Nat.ne_of_gt (IsS69.lt (show IsS69 w0 _ g s0_0 t206 t207 from ss_ HI0)) : gb212 ≠ g)); replace HI0 := aS_ (IsS69.below (ss_ HI0) hb); clear hb hbox hg; obtain ⟨Ao13, co13, eo13⟩ := Kd.R_slice HO211.out; subst eo13; have hnb14 := NB212_201.out; have hnc14 := NB201_212.out; have hnb15 := NB212_0.out; have hnc15 := NB0_212.out; obtain ⟨hcz16_0, hfz16_0⟩ := c10_ BK212) | ((with_reducible refine gg_ ?_); refine gc_ 54 (some 21) Tryz.func54 #[.pointer (some ⟨g, 0, none⟩), .int .i64 3] ?_; (with_reducible refine (spec_l1Cur_one.calls g s0_0 t206 t207 3 t213 t214 t215 w0 _ ?side1 ?side2 A6.out).mono ?_); (case side1 => exact ss_ HI0); (case side2 => repeat (first | (with_reducible first | exact HB.out | apply bA_ | apply pN_ | apply bD_ | refine bS_ ?_ (IsS69.ge HI0.out) | refine bS_ ?_ GE201.out | refine bS_ ?_ GE212.out) | exact HB.out)); rintro e w17 ⟨rfl, hi, hb, hk⟩; refine ⟨_, rfl, ?_⟩; replace BK201 := aS_ (KeepBut.blk hk (g' := gb201) (o := .cells #[.slice none 0 0] 26 (0, 0)) (by (with_reducible repeat (first | refine kN_ ?_ _ | refine kD_ ?_ | refine kA_ ?_ _)); refine blk_far ?_ NB201_212.out _; (with_reducible repeat (first | refine kN_ ?_ _ | refine kD_ ?_ | refine kA_ ?_ _)); exact BK201.out) NB201_0.out (by simp)); replace HO205 := aS_ (Kd.R_mono (Kd.R_keep (IsS69.apart (show IsS69 w0 _ g s0_0 t206 t207 from ss_ HI0) (by (with_reducible repeat (first | apply rA_ | apply rN_ | apply rD_)); exact (Kd.R_mono (Kd.R_far (p := ⟨gb212, 0, none⟩) (Kd.R_types HO205.out BK212.out (by decide)) (fun _ hk => hk.2) (.slice Ao13 t209.length co13)) (fun _ h_ => h_.1))) (by decide)) hk (fun _ h => h.2)) (fun _ h => h.1)); replace HO211 := aS_ (Kd.R_mono (Kd.R_keep (IsS69.apart (show IsS69 w0 _ g s0_0 t206 t207 from ss_ HI0) (by (with_reducible repeat (first | apply rA_ | apply rN_ | apply rD_)); exact (Kd.R_mono (Kd.R_far (p := ⟨gb212, 0, none⟩) (Kd.R_types HO211.out BK212.out (by decide)) (fun _ hk => hk.2) (.slice Ao13 t209.length co13)) (fun _ h_ => h_.1))) (by decide)) hk (fun _ h => h.2)) (fun _ h => h.1)); replace BK212 := aS_ (KeepBut.blk hk (g' := gb212) (o := .cells #[.slice Ao13 t209.length co13] 26 (0, 0)) (by (with_reducible repeat (first | refine kN_ ?_ _ | refine kD_ ?_ | refine kA_ ?_ _)); refine blk_put (cs := #[.slice none 0 0]) ?_ 0 _ rfl; (with_reducible repeat (first | refine kN_ ?_ _ | refine kD_ ?_ | refine kA_ ?_ _)); exact BK212.out) NB212_0.out (by simp)); replace HK := aS_ (KeepBut.trans (hh_ HK) hk (.inl rfl)); replace HB := aS_ (hb); replace HI0 := aS_ (hi); (try clear hb); (try clear hk); (try clear hi)))
  (try simp only [Act.put, List.setIfInBounds_toArray, List.set_cons_zero, List.set_cons_succ])
  go_cut [] (fun wc => ∃ (kq : Nat) (x213000_6 : List Int) (u213000 : Value), Aside0 (spec_l1Cur_table.j0 kq t202 s0_0 t214 t215 x213000_6 = some (r1, r2, r3)) ∧ Aside0 (kq ≤ k) ∧ Aside0 (Kd.R (Kd.int .i64) 3 wc w.heap.size (fun _ => True) u213000 x213000_6) ∧ Aside0 (wc.heap[gb201]? = some (.cells #[(.slice none 0 0)] 26 (0, 0))) ∧ Aside0 (wc.heap[gb212]? = some (.cells #[u213000] 26 (0, 0))) ∧ Aside0 (IsS69 w0 wc g s0_0 t214 t215) ∧ Aside0 (KeepBut w wc g none) ∧ Aside0 (Below w0.heap.size w0 wc))
  case first =>
   have H := HC7.out
   clear HC7
   replace H := it_ H; rcases H with ⟨rfl, H⟩ | ⟨rfl, H⟩
   ·replace H := bs_ H; obtain ⟨t216, A19, H⟩ := H
    have H' := aS_ H
    clear H
    go_wp2_with (first | ((with_reducible refine gg_ ?_); refine gc_ 87 (some 24) Tryz.func87 #[.int .i64 t202, .slice Ao10 t203.length co10] ?_; (with_reducible refine (spec_prRobin.calls k t202 _ _ t203 t216 _ ?side1 ?side2 A19.out).mono ?_); (case side1 => exact cR_ HO205); (case side2 => exact (Kd.R_reads' HO205.out).2.1); rintro e w20 ⟨v217, rfl, ho0, hb⟩; refine ⟨_, rfl, ?_⟩; have HO218 := aS_ (Kd.R_lower (Kd.R_new' (Kd.R_new' ho0 (Kd.R_lt (rr_ HO205))) (Kd.R_lt (rr_ HO211))) (keep_size (w := w) (g := g) (row := none) (hh_ HK))); replace HO205 := aS_ (Kd.R_elder' (rr_ HO205) (Kd.R_base ho0) hb); replace HO211 := aS_ (Kd.R_elder' (rr_ HO211) (Kd.R_base ho0) hb); replace BK201 := kO_ BK201 hb; replace BK212 := kO_ BK212 hb; replace HK := aS_ (KeepBut.trans (hh_ HK) (KeepBut.of_below hb g none) (.inl rfl)); replace HB := aS_ (below_step (by repeat (first | (with_reducible first | exact HB.out | apply bA_ | apply pN_ | apply bD_ | refine bS_ ?_ (IsS69.ge HI0.out) | refine bS_ ?_ GE201.out | refine bS_ ?_ GE212.out) | exact HB.out)) hb); replace HI0 := aS_ (IsS69.below (ss_ HI0) hb); (try clear hb); (try clear ho0); obtain ⟨Ao21, co21, eo21⟩ := Kd.R_slice HO218.out; subst eo21; have hnb22 := NB212_201.out; have hnc22 := NB201_212.out; have hnb23 := NB212_0.out; have hnc23 := NB0_212.out; obtain ⟨hcz24_0, hfz24_0⟩ := c10_ BK212))
    go_meet
    case rel => exact ⟨_, (t216), (.slice Ao21 t216.length co21), H', ⟨by first | omega | exact Nat.le_refl _⟩, ⟨by (with_reducible repeat (first | apply rA_ | apply rN_ | apply rD_)); exact Kd.R_mono (Kd.R_far (p := ⟨gb212, 0, none⟩) (Kd.R_types HO218.out BK212.out (by decide)) (fun _ hk => hk.2) (.slice Ao21 t216.length co21)) (fun _ hk => trivial)⟩, ⟨by (with_reducible repeat (first | refine kN_ ?_ _ | refine kD_ ?_ | refine kA_ ?_ _)); refine blk_far ?_ NB201_212.out _; (with_reducible repeat (first | refine kN_ ?_ _ | refine kD_ ?_ | refine kA_ ?_ _)); exact BK201.out⟩, ⟨by (with_reducible repeat (first | refine kN_ ?_ _ | refine kD_ ?_ | refine kA_ ?_ _)); refine blk_put (cs := #[.slice Ao13 t209.length co13]) ?_ 0 _ rfl; (with_reducible repeat (first | refine kN_ ?_ _ | refine kD_ ?_ | refine kA_ ?_ _)); exact BK212.out⟩, ⟨ss_ HI0⟩, ⟨hh_ HK⟩, ⟨by repeat (first | (with_reducible first | exact HB.out | apply bA_ | apply pN_ | apply bD_ | refine bS_ ?_ (IsS69.ge HI0.out) | refine bS_ ?_ GE201.out | refine bS_ ?_ GE212.out) | exact HB.out)⟩⟩
   have H' := aS_ H
   clear H
   go_wp2
   go_meet
   case rel => exact ⟨_, (t209), (.slice Ao13 t209.length co13), H', ⟨by first | omega | exact Nat.le_refl _⟩, ⟨by (with_reducible repeat (first | apply rA_ | apply rN_ | apply rD_)); exact Kd.R_mono HO211.out (fun _ hk => trivial)⟩, ⟨kk_ BK201⟩, ⟨kk_ BK212⟩, ⟨ss_ HI0⟩, ⟨hh_ HK⟩, ⟨by repeat (first | (with_reducible first | exact HB.out | apply bA_ | apply pN_ | apply bD_ | refine bS_ ?_ (IsS69.ge HI0.out) | refine bS_ ?_ GE201.out | refine bS_ ?_ GE212.out) | exact HB.out)⟩⟩
  case rest =>
  clear HC7
  try clear hcz16_0
  try clear hfz16_0
  obtain ⟨kq, x213000_6, u213000, HA, HJ6, HO_213000, BK201, BK212, HI0, HK, HB⟩ := hcut
  cases kq with
  | zero => exact absurd HA.out (by simp [spec_l1Cur_table.j0])
  | succ kj6 =>
  have H := HA.out
  clear HA
  simp only [spec_l1Cur_table.j0] at H
  replace H := bs_ H; obtain ⟨⟨t219, t220, t221⟩, A25, H⟩ := H
  replace H := it_ H; rcases H with ⟨rfl, H⟩ | ⟨rfl, H⟩
  ·replace H := bs_ H; obtain ⟨⟨t222, t223, t224⟩, A27, H⟩ := H
   obtain ⟨y225, hy225⟩ : ∃ y_ : List Int, y_ = (([(-1), (-2), 0, 5, 1000] : List Int)) := ⟨_, rfl⟩
   replace H : ((spec_l1Cur_among.f s0_0 t223 t224 y225).bind fun bt228 => (if 0 ≤ t222 then (if t222 < (x213000_6.length : Int) then (some ((x213000_6.set (t222 : Int).toNat bt228.1), bt228.2.1, bt228.2.2)) else (none)) else (none))) = some (r1, r2, r3) := yH_ hy225 H
   have Ny225 := aS_ hy225
   clear hy225
   replace H := bs_ H; obtain ⟨⟨t228, t229, t230⟩, A28, H⟩ := H
   replace H := jd_ H; obtain ⟨c29b0, H⟩ := H
   replace H := jd_ H; obtain ⟨c30b0, H⟩ := H
   obtain ⟨y231, hy231⟩ : ∃ y_ : List Int, y_ = (x213000_6.set (t222 : Int).toNat t228) := ⟨_, rfl⟩
   replace H : (some (y231, t229, t230)) = some (r1, r2, r3) := yH_ hy231 H
   have Ny231 := aS_ hy231
   clear hy231
   simp only [Option.some.injEq, Prod.mk.injEq] at H
   obtain ⟨rfl, rfl, rfl⟩ := H
   try go_wp2_with (first | ((with_reducible refine gg_ ?_); refine gc_ 54 (some 26) Tryz.func54 #[.pointer (some ⟨g, 0, none⟩), .int .i64 12] ?_; (with_reducible refine (spec_l1Cur_one.calls g s0_0 t214 t215 12 true t220 t221 w0 _ ?side1 ?side2 A25.out).mono ?_); (case side1 => exact ss_ HI0); (case side2 => repeat (first | (with_reducible first | exact HB.out | apply bA_ | apply pN_ | apply bD_ | refine bS_ ?_ (IsS69.ge HI0.out) | refine bS_ ?_ GE201.out | refine bS_ ?_ GE212.out) | exact HB.out)); rintro e w32 ⟨rfl, hi, hb, hk⟩; refine ⟨_, rfl, ?_⟩; replace HO_213000 := aS_ (Kd.R_mono (Kd.R_keep (IsS69.apart (show IsS69 w0 _ g s0_0 t214 t215 from ss_ HI0) (rr_ HO_213000) (by decide)) hk (fun _ h => h.2)) (fun _ h => h.1)); replace BK201 := aS_ (KeepBut.blk hk (g' := gb201) (o := .cells #[.slice none 0 0] 26 (0, 0)) (kk_ BK201) NB201_0.out (by simp)); replace BK212 := aS_ (KeepBut.blk hk (g' := gb212) (o := .cells #[u213000] 26 (0, 0)) (kk_ BK212) NB212_0.out (by simp)); replace HK := aS_ (KeepBut.trans (hh_ HK) hk (.inl rfl)); replace HB := aS_ (hb); replace HI0 := aS_ (hi); (try clear hb); (try clear hk); (try clear hi)))
   replace HO_213000 := aS_ (rD_ HO_213000.out)
   replace BK201 := aS_ (kD_ BK201.out)
   replace BK212 := aS_ (kD_ BK212.out)
   replace HI0 := aS_ (IsS69.drew HI0.out)
   replace HK := aS_ (keep_drew HK.out)
   replace HB := aS_ (bD_ HB.out)
   refine start_ (n := 10) (S := fun w' => w'.cell? ⟨gb212, 0, none⟩ = some (u213000)) (ds := [9]) #[false, false, false, false, false, false, false, false, false, false] (by kernel_rfl) rfl rfl ((blk_cell BK212.out 0).trans rfl) (fun hHeld => ?_); refine with_tabW spec_l1Cur_table.tab8 spec_l1Cur_table.bits8 (fun HT_ HW_ => ?_)
   generalize w32.drew = w33 at HO_213000 BK201 BK212 HI0 HK HB hHeld ⊢
   refine pure_ (i := 0) (N := some 27) (v := ?_) (a' := ?_) #[true, false, false, false, false, false, false, false, false, false] rfl rfl (any_of HT_.out (by kernel_rfl)) (fun _ _ _ h => h) (Or.inl ⟨by rfl, ?_⟩) ?_ ?_
   rotate_left
   ·intro w'
    go_simp
    with_reducible rfl
   rotate_left
   ·simp only [Act.put, List.setIfInBounds_toArray, List.set_cons_zero, List.set_cons_succ, i64_w, i32_w]
    rfl
   refine pure_ (i := 2) (N := some 29) (v := ?_) (a' := ?_) #[true, false, true, false, false, false, false, false, false, false] rfl rfl (any_of HT_.out (by kernel_rfl)) (fun _ _ _ h => h) (Or.inl ⟨by rfl, ?_⟩) ?_ ?_
   rotate_left
   ·intro w'
    go_simp
    with_reducible rfl
   rotate_left
   ·simp only [Act.put, List.setIfInBounds_toArray, List.set_cons_zero, List.set_cons_succ, i64_w, i32_w]
    rfl
   refine pure_ (i := 3) (N := some 30) (v := ?_) (a' := ?_) #[true, false, true, true, false, false, false, false, false, false] rfl rfl (any_of HT_.out (by kernel_rfl)) (fun _ _ _ h => h) (Or.inl ⟨by rfl, ?_⟩) ?_ ?_
   rotate_left
   ·intro w'
    go_simp
    with_reducible rfl
   rotate_left
   ·simp only [Act.put, List.setIfInBounds_toArray, List.set_cons_zero, List.set_cons_succ, i64_w, i32_w]
    rfl
   refine pure_ (i := 5) (N := some 32) (v := ?_) (a' := ?_) #[true, false, true, true, false, true, false, false, false, false] rfl rfl (any_of HT_.out (by kernel_rfl)) (fun _ _ _ h => h) (Or.inl ⟨by rfl, ?_⟩) ?_ ?_
   rotate_left
   ·intro w'
    go_simp
    with_reducible rfl
   rotate_left
   ·simp only [Act.put, List.setIfInBounds_toArray, List.set_cons_zero, List.set_cons_succ, i64_w, i32_w]
    rfl
   refine take_ (i := 1) (N := some 28) (v := ?_) (a' := ?_) #[true, true, true, true, false, true, false, false, false, false] rfl rfl (take_ofW HT_.out HW_.out (by kernel_rfl)) (fun _ _ _ h => h) (Or.inl ⟨by rfl, ?_⟩) hHeld ?_ ?_
   rotate_left
   ·intro w' s0
    go_simp
    with_reducible rfl
   rotate_left
   ·simp only [Act.put, List.setIfInBounds_toArray, List.set_cons_zero, List.set_cons_succ, i64_w, i32_w]
    rfl
   refine join_ (σ := Value) 3 #[true, true, true, true, true, true, true, false, false, false] (fun s_ => [(31, .int .i64 t222), (33, s_)]) (fun s_ w' => (w'.cell? ⟨gb212, 0, none⟩ = some (u213000)) ∧ (Kd.R (Kd.int .i64) 3 w' w.heap.size (fun k_ => some k_ ≠ (u213000 : Value).ownBlock) s_ y225) ∧ (Kd.R (Kd.int .i64) 3 w' w.heap.size (fun k_ => some k_ ≠ (s_ : Value).ownBlock) u213000 x213000_6) ∧ (w'.heap[gb201]? = some (.cells #[.slice none 0 0] 26 (0, 0))) ∧ (w'.heap[gb212]? = some (.cells #[u213000] 26 (0, 0))) ∧ (IsS69 w0 w' g s0_0 t223 t224) ∧ (KeepBut w w' g none) ∧ (Below w0.heap.size w0 w')) ?_ ?_
   rotate_left
   ·intro hCont
    refine two_ (i := 4) (j := 6) (Ni := some 31) (Nj := some 33) #[true, true, true, true, true, true, false, false, false, false] #[true, true, true, true, false, true, true, false, false, false] rfl rfl rfl rfl (two_of HT_.out (by kernel_rfl)) (by decide) (by decide) (fun K hK => ?_) (fun K hK => ?_)
    ·skip
     refine goes_ Tryz.func88 (by kernel_rfl) rfl #[.pointer (some ⟨g, 0, none⟩), .int .i64 t202] (by rfl) rfl rfl aR_ ?_
     with_reducible refine (spec_l1Cur_pick.calls g s0_0 t220 t221 t202 t222 t223 t224 w0 _ ?side1 ?side2 A27.out).mono ?_
     (case side1 => exact ss_ HI0)
     (case side2 => repeat (first | (with_reducible first | exact HB.out | apply bA_ | apply pN_ | apply bD_ | refine bS_ ?_ (IsS69.ge HI0.out) | refine bS_ ?_ GE201.out | refine bS_ ?_ GE212.out) | exact HB.out))
     rintro e w34 ⟨rfl, hi, hb, hk⟩
     refine ⟨_, rfl, ?_⟩
     replace HO_213000 := aS_ (Kd.R_mono (Kd.R_keep (IsS69.apart (show IsS69 w0 _ g s0_0 t220 t221 from ss_ HI0) (rr_ HO_213000) (by decide)) hk (fun _ h => h.2)) (fun _ h => h.1))
     replace BK201 := aS_ (KeepBut.blk hk (g' := gb201) (o := .cells #[.slice none 0 0] 26 (0, 0)) (kk_ BK201) NB201_0.out (by simp))
     replace BK212 := aS_ (KeepBut.blk hk (g' := gb212) (o := .cells #[u213000] 26 (0, 0)) (kk_ BK212) NB212_0.out (by simp))
     replace HK := aS_ (KeepBut.trans (hh_ HK) hk (.inl rfl))
     replace HB := aS_ (hb)
     replace HI0 := aS_ (hi)
     (try clear hb)
     (try clear hk)
     (try clear hi)
     refine hK.out _ _ ((blk_cell BK212.out 0).trans rfl) (fun hHeld => ?_)
     clear hK K
     refine norm_ (a' := ?_) ?_ ?_
     rotate_left
     ·show Act.put _ (some 31) _ = _
      simp only [Act.put, List.setIfInBounds_toArray, List.set_cons_zero, List.set_cons_succ, i64_w, i32_w]
      rfl
     refine one_ (i := 6) (N := some 33) #[true, true, true, true, true, true, true, false, false, false] rfl rfl (one_of HT_.out (by kernel_rfl)) (by decide) (fun K hK => ?_)
     refine Kd.R_lit_step (Kd.int .i64) _ 3 ?hg (N := 33) ?hd (xs := ([(-1), (-2), 0, 5, 1000] : List Int)) (inner := [.int .i64 (-1), .int .i64 (-2), .int .i64 0, .int .i64 5, .int .i64 1000]) (ok := fun _ => True) (okp := fun _ => True) ?hr ?hp (fun _ hk => hk) trivial (Below.refl _ _) (Nat.le_refl _) (by simp) ?_; (case hd => rfl); (case hg => rfl); (case hr => first | (go_simp; done) | (go_simp; rfl)); (case hp => exact (Reps.one (show Kd.M (Kd.int .i64) _ _ _ (-1) [.int .i64 (-1)] from rfl) (Reps.one (show Kd.M (Kd.int .i64) _ _ _ (-2) [.int .i64 (-2)] from rfl) (Reps.one (show Kd.M (Kd.int .i64) _ _ _ 0 [.int .i64 0] from rfl) (Reps.one (show Kd.M (Kd.int .i64) _ _ _ 5 [.int .i64 5] from rfl) (Reps.one (show Kd.M (Kd.int .i64) _ _ _ 1000 [.int .i64 1000] from rfl) (Reps.none _ _)))))))
     intro v226 w35 ho36 hb hg_ hnew_
     clear hg_ hnew_
     (first | rw [← Ny225.out] at ho36 | (simp only [Int.reduceToNat] at ho36; rw [← Ny225.out] at ho36))
     have HO227 := aS_ (Kd.R_lower (Kd.R_new' ho36 (Kd.R_lt (rr_ HO_213000))) (keep_size (w := w) (g := g) (row := none) (hh_ HK)))
     replace HO_213000 := aS_ (Kd.R_elder' (rr_ HO_213000) (Kd.R_base ho36) hb)
     replace BK201 := kO_ BK201 hb
     replace BK212 := kO_ BK212 hb
     replace HK := aS_ (KeepBut.trans (hh_ HK) (KeepBut.of_below hb g none) (.inl rfl))
     replace HB := aS_ (below_step (by repeat (first | (with_reducible first | exact HB.out | apply bA_ | apply pN_ | apply bD_ | refine bS_ ?_ (IsS69.ge HI0.out) | refine bS_ ?_ GE201.out | refine bS_ ?_ GE212.out) | exact HB.out)) hb)
     replace HI0 := aS_ (IsS69.below (ss_ HI0) hb)
     clear hb ho36
     refine hK.out _ _ ((blk_cell BK212.out 0).trans rfl) (fun hHeld => ?_)
     clear hK K
     refine norm_ (a' := ?_) ?_ ?_
     rotate_left
     ·show Act.put _ (some 33) _ = _
      simp only [Act.put, List.setIfInBounds_toArray, List.set_cons_zero, List.set_cons_succ, i64_w, i32_w]
      rfl
     exact norm_ (by simp only [putAll, Act.put, List.setIfInBounds_toArray, List.set_cons_zero, List.set_cons_succ]) (hCont (v226) _ ⟨hHeld, (by (with_reducible repeat (first | apply rA_ | apply rN_ | apply rD_)); exact Kd.R_mono HO227.out (fun _ hk => hk.2)), (by (with_reducible repeat (first | apply rA_ | apply rN_ | apply rD_)); exact Kd.R_mono HO_213000.out (fun _ hk => hk.2)), (kk_ BK201), (kk_ BK212), (ss_ HI0), (hh_ HK), (by repeat (first | (with_reducible first | exact HB.out | apply bA_ | apply pN_ | apply bD_ | refine bS_ ?_ (IsS69.ge HI0.out) | refine bS_ ?_ GE201.out | refine bS_ ?_ GE212.out) | exact HB.out))⟩)
    skip
    refine Kd.R_lit_step (Kd.int .i64) _ 3 ?hg (N := 33) ?hd (xs := ([(-1), (-2), 0, 5, 1000] : List Int)) (inner := [.int .i64 (-1), .int .i64 (-2), .int .i64 0, .int .i64 5, .int .i64 1000]) (ok := fun _ => True) (okp := fun _ => True) ?hr ?hp (fun _ hk => hk) trivial (Below.refl _ _) (Nat.le_refl _) (by simp) ?_; (case hd => rfl); (case hg => rfl); (case hr => first | (go_simp; done) | (go_simp; rfl)); (case hp => exact (Reps.one (show Kd.M (Kd.int .i64) _ _ _ (-1) [.int .i64 (-1)] from rfl) (Reps.one (show Kd.M (Kd.int .i64) _ _ _ (-2) [.int .i64 (-2)] from rfl) (Reps.one (show Kd.M (Kd.int .i64) _ _ _ 0 [.int .i64 0] from rfl) (Reps.one (show Kd.M (Kd.int .i64) _ _ _ 5 [.int .i64 5] from rfl) (Reps.one (show Kd.M (Kd.int .i64) _ _ _ 1000 [.int .i64 1000] from rfl) (Reps.none _ _)))))))
    intro v226 w34 ho35 hb hg_ hnew_
    clear hg_ hnew_
    (first | rw [← Ny225.out] at ho35 | (simp only [Int.reduceToNat] at ho35; rw [← Ny225.out] at ho35))
    have HO227 := aS_ (Kd.R_lower (Kd.R_new' ho35 (Kd.R_lt (rr_ HO_213000))) (keep_size (w := w) (g := g) (row := none) (hh_ HK)))
    replace HO_213000 := aS_ (Kd.R_elder' (rr_ HO_213000) (Kd.R_base ho35) hb)
    replace BK201 := kO_ BK201 hb
    replace BK212 := kO_ BK212 hb
    replace HK := aS_ (KeepBut.trans (hh_ HK) (KeepBut.of_below hb g none) (.inl rfl))
    replace HB := aS_ (below_step (by repeat (first | (with_reducible first | exact HB.out | apply bA_ | apply pN_ | apply bD_ | refine bS_ ?_ (IsS69.ge HI0.out) | refine bS_ ?_ GE201.out | refine bS_ ?_ GE212.out) | exact HB.out)) hb)
    replace HI0 := aS_ (IsS69.below (ss_ HI0) hb)
    clear hb ho35
    refine hK.out _ _ ((blk_cell BK212.out 0).trans rfl) (fun hHeld => ?_)
    clear hK K
    refine norm_ (a' := ?_) ?_ ?_
    rotate_left
    ·show Act.put _ (some 33) _ = _
     simp only [Act.put, List.setIfInBounds_toArray, List.set_cons_zero, List.set_cons_succ, i64_w, i32_w]
     rfl
    refine one_ (i := 4) (N := some 31) #[true, true, true, true, true, true, true, false, false, false] rfl rfl (one_of HT_.out (by kernel_rfl)) (by decide) (fun K hK => ?_)
    refine goes_ Tryz.func88 (by kernel_rfl) rfl #[.pointer (some ⟨g, 0, none⟩), .int .i64 t202] (by rfl) rfl rfl aR_ ?_
    with_reducible refine (spec_l1Cur_pick.calls g s0_0 t220 t221 t202 t222 t223 t224 w0 _ ?side1 ?side2 A27.out).mono ?_
    (case side1 => exact ss_ HI0)
    (case side2 => repeat (first | (with_reducible first | exact HB.out | apply bA_ | apply pN_ | apply bD_ | refine bS_ ?_ (IsS69.ge HI0.out) | refine bS_ ?_ GE201.out | refine bS_ ?_ GE212.out) | exact HB.out))
    rintro e w36 ⟨rfl, hi, hb, hk⟩
    refine ⟨_, rfl, ?_⟩
    replace HO_213000 := aS_ (Kd.R_mono (Kd.R_keep (IsS69.apart (show IsS69 w0 _ g s0_0 t220 t221 from ss_ HI0) (rr_ HO_213000) (by decide)) hk (fun _ h => h.2)) (fun _ h => h.1))
    replace BK201 := aS_ (KeepBut.blk hk (g' := gb201) (o := .cells #[.slice none 0 0] 26 (0, 0)) (kk_ BK201) NB201_0.out (by simp))
    replace BK212 := aS_ (KeepBut.blk hk (g' := gb212) (o := .cells #[u213000] 26 (0, 0)) (kk_ BK212) NB212_0.out (by simp))
    replace HO227 := aS_ (Kd.R_mono (Kd.R_keep (IsS69.apart (show IsS69 w0 _ g s0_0 t220 t221 from ss_ HI0) (rr_ HO227) (by decide)) hk (fun _ h => h.2)) (fun _ h => h.1))
    replace HK := aS_ (KeepBut.trans (hh_ HK) hk (.inl rfl))
    replace HB := aS_ (hb)
    replace HI0 := aS_ (hi)
    (try clear hb)
    (try clear hk)
    (try clear hi)
    refine hK.out _ _ ((blk_cell BK212.out 0).trans rfl) (fun hHeld => ?_)
    clear hK K
    refine norm_ (a' := ?_) ?_ ?_
    rotate_left
    ·show Act.put _ (some 31) _ = _
     simp only [Act.put, List.setIfInBounds_toArray, List.set_cons_zero, List.set_cons_succ, i64_w, i32_w]
     rfl
    exact norm_ (by simp only [putAll, Act.put, List.setIfInBounds_toArray, List.set_cons_zero, List.set_cons_succ]) (hCont (v226) _ ⟨hHeld, (by (with_reducible repeat (first | apply rA_ | apply rN_ | apply rD_)); exact Kd.R_mono HO227.out (fun _ hk => hk.2)), (by (with_reducible repeat (first | apply rA_ | apply rN_ | apply rD_)); exact Kd.R_mono HO_213000.out (fun _ hk => hk.2)), (kk_ BK201), (kk_ BK212), (ss_ HI0), (hh_ HK), (by repeat (first | (with_reducible first | exact HB.out | apply bA_ | apply pN_ | apply bD_ | refine bS_ ?_ (IsS69.ge HI0.out) | refine bS_ ?_ GE201.out | refine bS_ ?_ GE212.out) | exact HB.out))⟩)
   rintro v226 w37 ⟨hS_, h0_, h1_, h2_, h3_, h4_, h5_, h6_⟩
   have n0_ : Aside0 (Kd.R (Kd.int .i64) 3 w37 w.heap.size (fun k_ => some k_ ≠ (u213000 : Value).ownBlock) v226 y225) := ⟨h0_⟩
   have n1_ : Aside0 (Kd.R (Kd.int .i64) 3 w37 w.heap.size (fun k_ => some k_ ≠ (v226 : Value).ownBlock) u213000 x213000_6) := ⟨h1_⟩
   have n2_ : Aside0 (w37.heap[gb201]? = some (.cells #[.slice none 0 0] 26 (0, 0))) := ⟨h2_⟩
   have n3_ : Aside0 (w37.heap[gb212]? = some (.cells #[u213000] 26 (0, 0))) := ⟨h3_⟩
   have n4_ : Aside0 (IsS69 w0 w37 g s0_0 t223 t224) := ⟨h4_⟩
   have n5_ : Aside0 (KeepBut w w37 g none) := ⟨h5_⟩
   have n6_ : Aside0 (Below w0.heap.size w0 w37) := ⟨h6_⟩
   clear HO_213000 BK201 BK212 HI0 HK HB
   clear h0_ h1_ h2_ h3_ h4_ h5_ h6_
   have HO227 := n0_
   have HO_213000 := n1_
   have BK201 := n2_
   have BK212 := n3_
   have HI0 := n4_
   have HK := n5_
   have HB := n6_
   clear n0_ n1_ n2_ n3_ n4_ n5_ n6_
   have hHeld : w37.cell? ⟨gb212, 0, none⟩ = some (u213000) := hS_
   obtain ⟨Ao38, co38, eo38⟩ := Kd.R_slice HO227.out
   (first | subst eo38 | (injection eo38 with f1_ f2_ f3_; have f4_ := f1_.symm; have f5_ := f3_.symm; clear f1_ f2_ f3_; subst f4_; subst f5_))
   refine norm_ (a' := ?_) ?_ ?_
   rotate_left
   ·simp only [putAll, Act.put, List.setIfInBounds_toArray, List.set_cons_zero, List.set_cons_succ]
    rfl
   refine one_ (i := 7) (N := some 34) #[true, true, true, true, true, true, true, true, false, false] rfl rfl (one_of HT_.out (by kernel_rfl)) (by decide) (fun K hK => ?_)
   refine goes_ Tryz.func59 (by kernel_rfl) rfl #[.pointer (some ⟨g, 0, none⟩), .slice Ao38 y225.length co38] (by rfl) rfl rfl aR_ ?_
   with_reducible refine (spec_l1Cur_among.calls g s0_0 t223 t224 _ _ y225 t228 t229 t230 w0 _ ?side1 ?side2 ?side3 ?side4 ?side5 A28.out).mono ?_
   (case side1 => exact ss_ HI0)
   (case side2 => repeat (first | (with_reducible first | exact HB.out | apply bA_ | apply pN_ | apply bD_ | refine bS_ ?_ (IsS69.ge HI0.out) | refine bS_ ?_ GE201.out | refine bS_ ?_ GE212.out) | exact HB.out))
   (case side3 => exact cR_ HO227)
   (case side4 => exact (Kd.R_reads' HO227.out).2.1)
   (case side5 => exact far_slice (IsS69.own_ne HI0.out HO227.out (by decide)))
   rintro e w39 ⟨rfl, hi, hb, hk⟩
   refine ⟨_, rfl, ?_⟩
   replace HO_213000 := aS_ (Kd.R_mono (Kd.R_keep (IsS69.apart (show IsS69 w0 _ g s0_0 t223 t224 from ss_ HI0) (rr_ HO_213000) (by decide)) hk (fun _ h => h.2)) (fun _ h => h.1))
   replace BK201 := aS_ (KeepBut.blk hk (g' := gb201) (o := .cells #[.slice none 0 0] 26 (0, 0)) (kk_ BK201) NB201_0.out (by simp))
   replace BK212 := aS_ (KeepBut.blk hk (g' := gb212) (o := .cells #[u213000] 26 (0, 0)) (kk_ BK212) NB212_0.out (by simp))
   replace HO227 := aS_ (Kd.R_mono (Kd.R_keep (IsS69.apart (show IsS69 w0 _ g s0_0 t223 t224 from ss_ HI0) (rr_ HO227) (by decide)) hk (fun _ h => h.2)) (fun _ h => h.1))
   replace HK := aS_ (KeepBut.trans (hh_ HK) hk (.inl rfl))
   replace HB := aS_ (hb)
   replace HI0 := aS_ (hi)
   (try clear hb)
   (try clear hk)
   (try clear hi)
   have p31 : 0 ≤ (t222 : Int) := of_decide_eq_true (by assumption)
   have q31 : (t222 : Int) < ((x213000_6.length : Int) : Int) := of_decide_eq_true (by assumption)
   obtain ⟨go31, co31, eo31, gb31, gl31, cl31, HG31⟩ := Kd.R_form HO_213000.out (by omega)
   (first | cases eo31 | (injection eo31 with ea_ en_ ec_; (first | subst ea_ | (injection ea_ with ea_; subst ea_)); subst ec_; clear en_))
   have GB31 := aS_ gb31
   have GG31 := aS_ HG31
   clear gb31 gl31 HG31
   obtain ⟨hx31_0, hf31_0⟩ := Kd.R_celln 0 HO_213000.out (t222 : Int) p31 q31
   replace p31 := eq_true p31
   replace q31 := eq_true q31
   have HN0_go31 := aS_ (show g ≠ go31 from by have h_ := IsS69.own_ne HI0.out HO_213000.out (by decide); intro e_; exact h_ (by rw [e_]; rfl))
   have HP40 := Kd.R_putn HO_213000.out (t222 : Int) t228
   rw [← Ny231.out] at HP40
   have HQ40 := aS_ HP40
   clear HP40
   refine hK.out _ _ ((blk_cell BK212.out 0).trans rfl) (fun hHeld => ?_)
   clear hK K
   refine norm_ (a' := ?_) ?_ ?_
   rotate_left
   ·show Act.put _ (some 34) _ = _
    simp only [Act.put, List.setIfInBounds_toArray, List.set_cons_zero, List.set_cons_succ, i64_w, i32_w]
    rfl
   refine pure_ (i := 8) (N := some 35) (v := ?_) (a' := ?_) #[true, true, true, true, true, true, true, true, true, false] rfl rfl (any_of HT_.out (by kernel_rfl)) (fun _ _ _ h => h) (Or.inl ⟨by rfl, ?_⟩) ?_ ?_
   rotate_left
   ·intro w'
    go_simp
    with_reducible rfl
   rotate_left
   ·simp only [Act.put, List.setIfInBounds_toArray, List.set_cons_zero, List.set_cons_succ, i64_w, i32_w]
    rfl
   refine last_ (i := 9) (N := none) #[true, true, true, true, true, true, true, true, true, true] rfl rfl (one_of HT_.out (by kernel_rfl)) (by decide) (fun K hK => ?_)
   refine skip_ (w1 := ?_) (by rfl) rfl ?_ ?_
   rotate_left
   ·go_simp
    rfl
   refine hK.out _ _ ?_
   clear hK K
   refine done_ (done_of HT_.out (by kernel_rfl)) ?_
   have n0_ : Aside0 (Kd.R (Kd.int .i64) 3 (w39.setCell ⟨go31, (t222 : Int).toNat, none⟩ (.int .i64 t228)) w.heap.size (fun k_ => some k_ ≠ (.slice Ao38 y225.length co38 : Value).ownBlock) (.slice (some ⟨go31, 0, none⟩) x213000_6.length co31) y231) := ⟨rr_ HQ40⟩
   have n1_ : Aside0 (Kd.R (Kd.int .i64) 3 (w39.setCell ⟨go31, (t222 : Int).toNat, none⟩ (.int .i64 t228)) w.heap.size (fun k_ => some k_ ≠ (.slice (some ⟨go31, 0, none⟩) x213000_6.length co31 : Value).ownBlock) (.slice Ao38 y225.length co38) y225) := ⟨by (with_reducible repeat (first | apply rA_ | apply rN_ | apply rD_)); exact Kd.R_mono (Kd.R_far (p := ⟨go31, (t222 : Int).toNat, none⟩) (Kd.R_mono HO227.out (fun k_ hk => (⟨hk, fun e_ => hk (by rw [e_]; rfl)⟩ : _ ∧ k_ ≠ go31))) (fun _ hk => hk.2) (.int .i64 t228)) (fun _ hk => hk.1)⟩
   have n2_ : Aside0 ((w39.setCell ⟨go31, (t222 : Int).toNat, none⟩ (.int .i64 t228)).heap[gb201]? = some (.cells #[.slice none 0 0] 26 (0, 0))) := ⟨by (with_reducible repeat (first | refine kN_ ?_ _ | refine kD_ ?_ | refine kA_ ?_ _)); refine blk_far ?_ (by have h_ := Kd.R_ne HO_213000.out BK201.out (by decide); intro e_; exact h_ (by rw [e_]; rfl)) _; (with_reducible repeat (first | refine kN_ ?_ _ | refine kD_ ?_ | refine kA_ ?_ _)); exact BK201.out⟩
   have n3_ : Aside0 ((w39.setCell ⟨go31, (t222 : Int).toNat, none⟩ (.int .i64 t228)).heap[gb212]? = some (.cells #[.slice (some ⟨go31, 0, none⟩) x213000_6.length co31] 26 (0, 0))) := ⟨by (with_reducible repeat (first | refine kN_ ?_ _ | refine kD_ ?_ | refine kA_ ?_ _)); refine blk_far ?_ (by have h_ := Kd.R_ne HO_213000.out BK212.out (by decide); intro e_; exact h_ (by rw [e_]; rfl)) _; (with_reducible repeat (first | refine kN_ ?_ _ | refine kD_ ?_ | refine kA_ ?_ _)); exact BK212.out⟩
   have n4_ : Aside0 (IsS69 w0 (w39.setCell ⟨go31, (t222 : Int).toNat, none⟩ (.int .i64 t228)) g s0_0 t229 t230) := ⟨ss_ HI0⟩
   have n5_ : Aside0 (KeepBut w (w39.setCell ⟨go31, (t222 : Int).toNat, none⟩ (.int .i64 t228)) g none) := ⟨hh_ HK⟩
   have n6_ : Aside0 (Below w0.heap.size w0 (w39.setCell ⟨go31, (t222 : Int).toNat, none⟩ (.int .i64 t228))) := ⟨by repeat (first | (with_reducible first | exact HB.out | apply bA_ | apply pN_ | apply bD_ | refine bS_ ?_ (Nat.le_trans HL.out GB31.out) | refine bS_ ?_ (IsS69.ge HI0.out) | refine bS_ ?_ GE201.out | refine bS_ ?_ GE212.out) | exact HB.out)⟩
   (try clear HO_213000)
   (try clear HO227)
   (try clear BK201)
   (try clear BK212)
   (try clear HI0)
   (try clear HK)
   (try clear HB)
   generalize (w39.setCell ⟨go31, (t222 : Int).toNat, none⟩ (.int .i64 t228)) = w41 at n0_ n1_ n2_ n3_ n4_ n5_ n6_ ⊢
   have HO_213000 := n0_
   have HO227 := n1_
   have BK201 := n2_
   have BK212 := n3_
   have HI0 := n4_
   have HK := n5_
   have HB := n6_
   clear n0_ n1_ n2_ n3_ n4_ n5_ n6_
   have hnb42 := NB212_201.out
   have hnc42 := NB201_212.out
   have hnb43 := NB212_0.out
   have hnc43 := NB0_212.out
   obtain ⟨hcz44_0, hfz44_0⟩ := c10_ BK212
   have hnb45 := NB201_0.out
   have hnc45 := NB0_201.out
   obtain ⟨hcz46_0, hfz46_0⟩ := c10_ BK201
   try go_wp2
   refine bodyPost_ret (results_cell_row rfl _ _ gb201 26 #[.slice (some ⟨go31, 0, none⟩) x213000_6.length co31] (0, 0) _ rfl (by (with_reducible repeat (first | refine kN_ ?_ _ | refine kD_ ?_ | refine kA_ ?_ _)); refine blk_put (cs := #[.slice none 0 0]) ?_ 0 _ rfl; (with_reducible repeat (first | refine kN_ ?_ _ | refine kD_ ?_ | refine kA_ ?_ _)); exact BK201.out) Tryz.underlying26 rfl (by kernel_rfl)) rfl ?_
   exact ⟨_, by first | rfl | (simp [errW_none, errW_some] <;> rfl) | (simp [*, errW_none, errW_some] <;> rfl), by (with_reducible repeat (first | apply rA_ | apply rN_ | apply rD_)); exact Kd.R_mono (Kd.R_far (p := ⟨gb201, 0, none⟩) (Kd.R_types HO_213000.out BK201.out (by decide)) (fun _ hk => hk.2) (.slice (some ⟨go31, 0, none⟩) x213000_6.length co31)) (fun _ hk => trivial), ss_ HI0, by repeat (first | (with_reducible first | exact HB.out | apply bA_ | apply pN_ | apply bD_ | refine bS_ ?_ (IsS69.ge HI0.out) | refine bS_ ?_ GE201.out | refine bS_ ?_ GE212.out) | exact HB.out), hh_ HK⟩
  simp only [Option.some.injEq, Prod.mk.injEq] at H
  obtain ⟨rfl, rfl, rfl⟩ := H
  go_wp2_with (first | ((with_reducible refine gg_ ?_); refine gc_ 54 (some 26) Tryz.func54 #[.pointer (some ⟨g, 0, none⟩), .int .i64 12] ?_; (with_reducible refine (spec_l1Cur_one.calls g s0_0 t214 t215 12 false t220 t221 w0 _ ?side1 ?side2 A25.out).mono ?_); (case side1 => exact ss_ HI0); (case side2 => repeat (first | (with_reducible first | exact HB.out | apply bA_ | apply pN_ | apply bD_ | refine bS_ ?_ (IsS69.ge HI0.out) | refine bS_ ?_ GE201.out | refine bS_ ?_ GE212.out) | exact HB.out)); rintro e w47 ⟨rfl, hi, hb, hk⟩; refine ⟨_, rfl, ?_⟩; replace HO_213000 := aS_ (Kd.R_mono (Kd.R_keep (IsS69.apart (show IsS69 w0 _ g s0_0 t214 t215 from ss_ HI0) (rr_ HO_213000) (by decide)) hk (fun _ h => h.2)) (fun _ h => h.1)); replace BK201 := aS_ (KeepBut.blk hk (g' := gb201) (o := .cells #[.slice none 0 0] 26 (0, 0)) (kk_ BK201) NB201_0.out (by simp)); replace BK212 := aS_ (KeepBut.blk hk (g' := gb212) (o := .cells #[u213000] 26 (0, 0)) (kk_ BK212) NB212_0.out (by simp)); replace HK := aS_ (KeepBut.trans (hh_ HK) hk (.inl rfl)); replace HB := aS_ (hb); replace HI0 := aS_ (hi); (try clear hb); (try clear hk); (try clear hi); have hnb48 := NB212_201.out; have hnc48 := NB201_212.out; have hnb49 := NB212_0.out; have hnc49 := NB0_212.out; obtain ⟨hcz50_0, hfz50_0⟩ := c10_ BK212; obtain ⟨Ao51, co51, eo51⟩ := Kd.R_slice HO_213000.out; subst eo51; have hnb52 := NB201_0.out; have hnc52 := NB0_201.out; obtain ⟨hcz53_0, hfz53_0⟩ := c10_ BK201))
  refine bodyPost_ret (results_cell_row rfl _ _ gb201 26 #[.slice Ao51 x213000_6.length co51] (0, 0) _ rfl (by (with_reducible repeat (first | refine kN_ ?_ _ | refine kD_ ?_ | refine kA_ ?_ _)); refine blk_put (cs := #[.slice none 0 0]) ?_ 0 _ rfl; (with_reducible repeat (first | refine kN_ ?_ _ | refine kD_ ?_ | refine kA_ ?_ _)); exact BK201.out) Tryz.underlying26 rfl (by kernel_rfl)) rfl ?_
  exact ⟨_, by first | rfl | (simp [errW_none, errW_some] <;> rfl) | (simp [*, errW_none, errW_some] <;> rfl), by (with_reducible repeat (first | apply rA_ | apply rN_ | apply rD_)); exact Kd.R_mono (Kd.R_far (p := ⟨gb201, 0, none⟩) (Kd.R_types HO_213000.out BK201.out (by decide)) (fun _ hk => hk.2) (.slice Ao51 x213000_6.length co51)) (fun _ hk => trivial), ss_ HI0, by repeat (first | (with_reducible first | exact HB.out | apply bA_ | apply pN_ | apply bD_ | refine bS_ ?_ (IsS69.ge HI0.out) | refine bS_ ?_ GE201.out | refine bS_ ?_ GE212.out) | exact HB.out), hh_ HK⟩
 simp only [Option.some.injEq, Prod.mk.injEq] at H
 obtain ⟨rfl, rfl, rfl⟩ := H
 go_enter Tryz.func53, Tryz.ntmps53
 go_wp2_with (first | ((with_reducible refine gg_ ?_); refine bx_ 2 #[.slice none 0 0] 26 ?_; intro gb201 hg w54 hbox hb; replace HB := aS_ (below_step (bI_ HB HI0) hb); have BK201 := aS_ (hbox); have GW201 := aS_ ((by rw [hg]; exact (keep_size (w := w) (g := g) (row := none) (hh_ HK)) : w.heap.size ≤ gb201)); have GE201 := aS_ ((Nat.le_trans HW0.out (by rw [hg]; exact (keep_size (w := w) (g := g) (row := none) (hh_ HK)) : w.heap.size ≤ gb201) : w0.heap.size ≤ gb201)); replace HK := aS_ (KeepBut.trans (hh_ HK) (KeepBut.of_below hb g none) (.inl rfl)); have NB0_201 := aS_ ((by rw [hg]; exact Nat.ne_of_lt (IsS69.lt (show IsS69 w0 _ g s0_0 s0_1 s0_2 from ss_ HI0)) : g ≠ gb201)); have NB201_0 := aS_ ((by rw [hg]; exact Nat.ne_of_gt (IsS69.lt (show IsS69 w0 _ g s0_0 s0_1 s0_2 from ss_ HI0)) : gb201 ≠ g)); replace HI0 := aS_ (IsS69.below (ss_ HI0) hb); clear hb hbox hg) | ((with_reducible refine gg_ ?_); refine gc_ 84 (some 8) Tryz.func84 #[.pointer (some ⟨g, 0, none⟩)] ?_; (with_reducible refine (spec_l1Cur_keys.calls k g s0_0 s0_1 s0_2 t202 t203 t206 t207 w0 _ ?side1 ?side2 A2.out).mono ?_); (case side1 => exact ss_ HI0); (case side2 => repeat (first | (with_reducible first | exact HB.out | apply bA_ | apply pN_ | apply bD_ | refine bS_ ?_ (IsS69.ge HI0.out) | refine bS_ ?_ GE201.out) | exact HB.out)); rintro e w55 ⟨v204, rfl, ho0, hi, hb, hk⟩; refine ⟨_, rfl, ?_⟩; replace BK201 := aS_ (KeepBut.blk hk (g' := gb201) (o := .cells #[.slice none 0 0] 26 (0, 0)) (kk_ BK201) NB201_0.out (by simp)); have HO205 := aS_ (Kd.R_lower ho0 (keep_size (w := w) (g := g) (row := none) (hh_ HK))); replace HK := aS_ (KeepBut.trans (hh_ HK) hk (.inl rfl)); replace HB := aS_ (hb); replace HI0 := aS_ (hi); (try clear hb); (try clear hk); (try clear hi); (try clear ho0); obtain ⟨Ao56, co56, eo56⟩ := Kd.R_slice HO205.out; subst eo56) | ((with_reducible refine gg_ ?_); refine gc_ 85 (some 13) Tryz.func85 #[.int .i64 t202, .slice Ao56 t203.length co56] ?_; (with_reducible refine (spec_prKeys.calls k t202 _ _ t203 false _ ?side1 ?side2 A3.out).mono ?_); (case side1 => exact cR_ HO205); (case side2 => exact (Kd.R_reads' HO205.out).2.1); rintro e w' ⟨rfl, ⟨nd, rfl⟩⟩; refine ⟨_, rfl, ?_⟩; (try (rw [drewN_self w55]; generalize hq_ : World.drewN w55 _ = w55; have n0_ : Aside0 (Kd.R (Kd.int .i64) 3 w55 w.heap.size (fun _ => True) (.slice Ao56 t203.length co56) t203) := ⟨by rw [← hq_]; exact (rr_ HO205)⟩; have n1_ : Aside0 (w55.heap[gb201]? = some (.cells #[.slice none 0 0] 26 (0, 0))) := ⟨by rw [← hq_]; exact (kk_ BK201)⟩; have n2_ : Aside0 (IsS69 w0 w55 g s0_0 t206 t207) := ⟨by rw [← hq_]; exact (ss_ HI0)⟩; have n3_ : Aside0 (KeepBut w w55 g none) := ⟨by rw [← hq_]; exact (hh_ HK)⟩; have n4_ : Aside0 (Below w0.heap.size w0 w55) := ⟨by rw [← hq_]; exact (by repeat (first | (with_reducible first | exact HB.out | apply bA_ | apply pN_ | apply bD_ | refine bS_ ?_ (IsS69.ge HI0.out) | refine bS_ ?_ GE201.out) | exact HB.out))⟩; clear HO205 BK201 HI0 HK HB hq_; have HO205 := n0_; have BK201 := n1_; have HI0 := n2_; have HK := n3_; have HB := n4_; clear n0_ n1_ n2_ n3_ n4_)); have hnb57 := NB201_0.out; have hnc57 := NB0_201.out; obtain ⟨hcz58_0, hfz58_0⟩ := c10_ BK201))
 refine bodyPost_ret (results_cell_row rfl _ _ gb201 26 #[.slice Ao56 t203.length co56] (0, 0) _ rfl (by (with_reducible repeat (first | refine kN_ ?_ _ | refine kD_ ?_ | refine kA_ ?_ _)); refine blk_put (cs := #[.slice none 0 0]) ?_ 0 _ rfl; (with_reducible repeat (first | refine kN_ ?_ _ | refine kD_ ?_ | refine kA_ ?_ _)); exact BK201.out) Tryz.underlying26 rfl (by kernel_rfl)) rfl ?_
 exact ⟨_, by first | rfl | (simp [errW_none, errW_some] <;> rfl) | (simp [*, errW_none, errW_some] <;> rfl), by (with_reducible repeat (first | apply rA_ | apply rN_ | apply rD_)); exact Kd.R_mono (Kd.R_far (p := ⟨gb201, 0, none⟩) (Kd.R_types HO205.out BK201.out (by decide)) (fun _ hk => hk.2) (.slice Ao56 t203.length co56)) (fun _ hk => trivial), ss_ HI0, by repeat (first | (with_reducible first | exact HB.out | apply bA_ | apply pN_ | apply bD_ | refine bS_ ?_ (IsS69.ge HI0.out) | refine bS_ ?_ GE201.out) | exact HB.out), hh_ HK⟩
/-! ### spec_DrawIsTable: function 27 -/
def spec_DrawIsTable.f (k : Nat) (l0 : List Int) : Option (List Int) := (spec_l1Cur_table.f k l0 0 0).bind fun bt234 => (some bt234.1)
theorem spec_DrawIsTable.mono : ∀ a0 k, LeO (spec_DrawIsTable.f k a0) (spec_DrawIsTable.f (k + 1) a0) := by
 intro a0 k
 unfold spec_DrawIsTable.f
 exact mo1_ spec_l1Cur_table.mono
set_option maxHeartbeats 8000000 in
set_option maxRecDepth 100000 in
theorem spec_DrawIsTable.calls (k : Nat) (A0 : Option Addr) (c0 : Nat) (l0 : List Int) (r : List Int) (w : World) (hr0 : Kd.C (Kd.int .u8) w A0 l0.length l0) (hc0 : l0.length ≤ c0) (h : spec_DrawIsTable.f k l0 = some r) :
  Calls Tryz.prog 27 #[.slice A0 l0.length c0] w fun e w' => ∃ v0_ : Value, e = .returned (.agg #[v0_]) ∧ Kd.R (Kd.int .i64) 3 w' w.heap.size (fun _ => True) v0_ r ∧ Below w.heap.size w w' := by
 have hu26 := Tryz.underlying26
 have hu69 := Tryz.underlying69
 have HR0 := aS_ hr0
 have HC0 := aS_ hc0
 clear hr0 hc0
 have HB := aS_ (Below.refl w.heap.size w)
 have H : ((spec_l1Cur_table.f k l0 0 0).bind fun bt234 => (some bt234.1)) = some r := h
 clear h
 replace H := bs_ H; obtain ⟨⟨t234, t237, t238⟩, A2, H⟩ := H
 obtain rfl := Option.some.inj H
 go_enter Tryz.func27, Tryz.ntmps27
 go_wp2_with (first | ((with_reducible refine gg_ ?_); refine bx_ 2 #[.slice none 0 0] 26 ?_; intro gb232 hg w3 hbox hb; have BK232 := aS_ (hbox); have GW232 := gE_ HB hg; have GE232 := gE_ HB hg; replace HB := bE_ HB hb; clear hb hbox hg) | ((with_reducible refine gg_ ?_); refine bx_ 6 #[.slice A0 l0.length c0, .int .i64 0, .int .u64 0] 69 ?_; intro gb233 hg w4 hbox hb; have GW233 := gE_ HB hg; have GE233 := gE_ HB hg; have NB232_233 := nL_ BK232 hg; have NB233_232 := nG_ BK232 hg; replace BK232 := kO_ BK232 hb; have HI233 := aS_ ((⟨_, _,  hbox, (by rw [hg]; exact (below_size (bb_ HB))), HR0.out⟩ : IsS69 w w4 gb233 l0 0 0)); replace HB := bE_ HB hb; clear hb hbox hg) | ((with_reducible refine gg_ ?_); refine gc_ 53 (some 8) Tryz.func53 #[.pointer (some ⟨gb233, 0, none⟩)] ?_; (with_reducible refine (spec_l1Cur_table.calls k gb233 l0 0 0 t234 t237 t238 w _ ?side1 ?side2 A2.out).mono ?_); (case side1 => exact ss_ HI233); (case side2 => repeat (first | (with_reducible first | exact HB.out | apply bA_ | apply pN_ | apply bD_ | refine bS_ ?_ (IsS69.ge HI233.out) | refine bS_ ?_ GE232.out) | exact HB.out)); rintro e w5 ⟨v235, rfl, ho0, hi, hb, hk⟩; refine ⟨_, rfl, ?_⟩; replace BK232 := aS_ (KeepBut.blk hk (g' := gb232) (o := .cells #[.slice none 0 0] 26 (0, 0)) (kk_ BK232) NB232_233.out (by simp)); have HO236 := aS_ (Kd.R_lower ho0 (below_size (by repeat (first | (with_reducible first | exact HB.out | apply bA_ | apply pN_ | apply bD_ | refine bS_ ?_ (IsS69.ge HI233.out) | refine bS_ ?_ GE232.out) | exact HB.out)))); replace HB := aS_ (hb); replace HI233 := aS_ (hi); (try clear hb); (try clear hk); (try clear hi); (try clear ho0); obtain ⟨Ao6, co6, eo6⟩ := Kd.R_slice HO236.out; subst eo6; have hnb7 := NB232_233.out; have hnc7 := NB233_232.out; obtain ⟨hcz8_0, hfz8_0⟩ := c10_ BK232))
 refine bodyPost_ret (results_cell_row rfl _ _ gb232 26 #[.slice Ao6 t234.length co6] (0, 0) _ rfl (by (with_reducible repeat (first | refine kN_ ?_ _ | refine kD_ ?_ | refine kA_ ?_ _)); refine blk_put (cs := #[.slice none 0 0]) ?_ 0 _ rfl; (with_reducible repeat (first | refine kN_ ?_ _ | refine kD_ ?_ | refine kA_ ?_ _)); exact BK232.out) Tryz.underlying26 rfl (by kernel_rfl)) rfl ?_
 exact ⟨_, by first | rfl | (simp [errW_none, errW_some] <;> rfl) | (simp [*, errW_none, errW_some] <;> rfl), by (with_reducible repeat (first | apply rA_ | apply rN_ | apply rD_)); exact Kd.R_mono (Kd.R_far (p := ⟨gb232, 0, none⟩) (Kd.R_types HO236.out BK232.out (by decide)) (fun _ hk => hk.2) (.slice Ao6 t234.length co6)) (fun _ hk => trivial), by repeat (first | (with_reducible first | exact HB.out | apply bA_ | apply pN_ | apply bD_ | refine bS_ ?_ (IsS69.ge HI233.out) | refine bS_ ?_ GE232.out) | exact HB.out)⟩
/-! ### spec_DrawFirstInsertion: function 5 -/
def spec_DrawFirstInsertion.f (k : Nat) (l0 : List Int) : Option (List Int) := (spec_DrawIsTable.f k l0).bind fun t240 => (some t240)
theorem spec_DrawFirstInsertion.mono : ∀ a0 k, LeO (spec_DrawFirstInsertion.f k a0) (spec_DrawFirstInsertion.f (k + 1) a0) := by
 intro a0 k
 unfold spec_DrawFirstInsertion.f
 exact mo1_ spec_DrawIsTable.mono
set_option maxHeartbeats 8000000 in
set_option maxRecDepth 100000 in
theorem spec_DrawFirstInsertion.calls (k : Nat) (A0 : Option Addr) (c0 : Nat) (l0 : List Int) (r : List Int) (w : World) (hr0 : Kd.C (Kd.int .u8) w A0 l0.length l0) (hc0 : l0.length ≤ c0) (h : spec_DrawFirstInsertion.f k l0 = some r) :
  Calls Tryz.prog 5 #[.slice A0 l0.length c0] w fun e w' => ∃ v0_ : Value, e = .returned (.agg #[v0_]) ∧ Kd.R (Kd.int .i64) 3 w' w.heap.size (fun _ => True) v0_ r ∧ Below w.heap.size w w' := by
 have hu26 := Tryz.underlying26
 have HR0 := aS_ hr0
 have HC0 := aS_ hc0
 clear hr0 hc0
 have HB := aS_ (Below.refl w.heap.size w)
 have H : ((spec_DrawIsTable.f k l0).bind fun t240 => (some t240)) = some r := h
 clear h
 replace H := bs_ H; obtain ⟨t240, A2, H⟩ := H
 obtain rfl := Option.some.inj H
 go_enter Tryz.func5, Tryz.ntmps5
 go_wp2_with (first | ((with_reducible refine gg_ ?_); refine bx_ 2 #[.slice none 0 0] 26 ?_; intro gb239 hg w3 hbox hb; have BK239 := aS_ (hbox); have GW239 := gE_ HB hg; have GE239 := gE_ HB hg; replace HB := bE_ HB hb; clear hb hbox hg) | ((with_reducible refine gg_ ?_); refine gc_ 27 (some 4) Tryz.func27 #[.slice A0 l0.length c0] ?_; (with_reducible refine (spec_DrawIsTable.calls k _ _ l0 t240 _ ?side1 ?side2 A2.out).mono ?_); (case side1 => exact cB_ HR0 HB); (case side2 => exact HC0.out); rintro e w4 ⟨v241, rfl, ho0, hb⟩; refine ⟨_, rfl, ?_⟩; have HO242 := aS_ (Kd.R_lower ho0 (below_size (bb_ HB))); replace BK239 := kO_ BK239 hb; replace HB := bE_ HB hb; (try clear hb); (try clear ho0); obtain ⟨Ao5, co5, eo5⟩ := Kd.R_slice HO242.out; subst eo5; obtain ⟨hcz6_0, hfz6_0⟩ := c10_ BK239))
 refine bodyPost_ret (results_cell_row rfl _ _ gb239 26 #[.slice Ao5 t240.length co5] (0, 0) _ rfl (by (with_reducible repeat (first | refine kN_ ?_ _ | refine kD_ ?_ | refine kA_ ?_ _)); refine blk_put (cs := #[.slice none 0 0]) ?_ 0 _ rfl; (with_reducible repeat (first | refine kN_ ?_ _ | refine kD_ ?_ | refine kA_ ?_ _)); exact BK239.out) Tryz.underlying26 rfl (by kernel_rfl)) rfl ?_
 exact ⟨_, by first | rfl | (simp [errW_none, errW_some] <;> rfl) | (simp [*, errW_none, errW_some] <;> rfl), by (with_reducible repeat (first | apply rA_ | apply rN_ | apply rD_)); exact Kd.R_mono (Kd.R_far (p := ⟨gb239, 0, none⟩) (Kd.R_types HO242.out BK239.out (by decide)) (fun _ hk => hk.2) (.slice Ao5 t240.length co5)) (fun _ hk => trivial), bb_ HB⟩
/-! ### slices_Index_int_int: function 47 -/
def slices_Index_int_int.l0 : Nat → List Int → Int → Int → Int → Option (Int)
 | 0, _, _, _, _ => none
 | k + 1, x0, x1, x7, x8 => if x8 < x7 then (if 0 ≤ x8 then (if x8 < (x0.length : Int) then (if x1 = (rd x0 x8) then (some x8) else (slices_Index_int_int.l0 k x0 x1 x7 (wrap64 (x8 + 1)))) else (none)) else (none)) else (some (-1))
def slices_Index_int_int.f (k : Nat) (l0 : List Int) (a1 : Int) : Option (Int) := slices_Index_int_int.l0 k l0 a1 (l0.length : Int) 0
theorem slices_Index_int_int.mono_l : ∀ k, (∀ y0 y1 y2 y3, LeO (slices_Index_int_int.l0 k y0 y1 y2 y3) (slices_Index_int_int.l0 (k + 1) y0 y1 y2 y3))
 | 0 => fun _ _ _ _ r h => by simp [slices_Index_int_int.l0] at h
 | k + 1 => by
  have ih0 := slices_Index_int_int.mono_l k
  intro y0 y1 y2 y3
  unfold slices_Index_int_int.l0
  exact mo1_ ih0
theorem slices_Index_int_int.mono : ∀ a0 a1 k, LeO (slices_Index_int_int.f k a0 a1) (slices_Index_int_int.f (k + 1) a0 a1) := by
 intro a0 a1 k
 have ih0 := slices_Index_int_int.mono_l k
 unfold slices_Index_int_int.f
 exact mo1_ ih0
set_option maxHeartbeats 8000000 in
set_option maxRecDepth 100000 in
theorem slices_Index_int_int.calls (k : Nat) (A0 : Option Addr) (c0 : Nat) (l0 : List Int) (a1 : Int) (r : Int) (w : World) (hr0 : Kd.C (Kd.int .i64) w A0 l0.length l0) (hc0 : l0.length ≤ c0) (h : slices_Index_int_int.f k l0 a1 = some r) :
  Calls Tryz.prog 47 #[.slice A0 l0.length c0, .int .i64 a1] w fun e w' => e = .returned (.int .i64 r) ∧ Drawn0 w w' := by
 have HR0 := aS_ hr0
 have HC0 := aS_ hc0
 clear hr0 hc0
 have H : (slices_Index_int_int.l0 k l0 a1 (l0.length : Int) 0) = some r := h
 clear h
 have H' := aS_ H
 clear H
 go_enter Tryz.func47, Tryz.ntmps47
 go_wp2
 go_loopg [8] k (fun kq v8 w' => ∃ (x8_1 : Int), v8 = .int .i64 x8_1 ∧ Aside0 (slices_Index_int_int.l0 kq l0 a1 (l0.length : Int) x8_1 = some r) ∧ Aside0 (kq ≤ k) ∧ Drawn0 w w')
 case atStart => exact ⟨(0), sR_, H', ⟨Nat.le_refl _⟩, by repeat (first | exact Drawn0.refl _ | apply Drawn0.step)⟩
 case round =>
 clear H'
 obtain ⟨x8_1, rfl, HA, HK1, ⟨m1, rfl⟩⟩ := hrel
 cases gk with
 | zero => exact absurd HA.out (by simp [slices_Index_int_int.l0])
 | succ k1 =>
 have H := HA.out
 clear HA
 simp only [slices_Index_int_int.l0] at H
 replace H := id_ H; rcases H with ⟨c3b0, H⟩ | ⟨c3b0, H⟩
 ·replace H := jd_ H; obtain ⟨c4b0, H⟩ := H
  replace H := jd_ H; obtain ⟨c5b0, H⟩ := H
  replace H := iq_ H; rcases H with ⟨c6b0, c6b1, H⟩ | ⟨c6b0, c6b1, c6, H⟩
  ·obtain rfl := Option.some.inj H
   have p243 : 0 ≤ (x8_1 : Int) := of_decide_eq_true (by assumption)
   have q243 : x8_1 < (l0.length : Int) := of_decide_eq_true (by assumption)
   obtain ⟨ad243, e243, hx243_0⟩ := Kd.at_int HR0.out x8_1 p243 q243
   cases e243
   replace p243 := eq_true p243
   replace q243 := eq_true q243
   go_wp2
   go_ret
   exact ⟨sR_, by repeat (first | exact Drawn0.refl _ | apply Drawn0.step)⟩
  have H' := aS_ H
  clear H
  have p243 : 0 ≤ (x8_1 : Int) := of_decide_eq_true (by assumption)
  have q243 : x8_1 < (l0.length : Int) := of_decide_eq_true (by assumption)
  obtain ⟨ad243, e243, hx243_0⟩ := Kd.at_int HR0.out x8_1 p243 q243
  cases e243
  replace p243 := eq_true p243
  replace q243 := eq_true q243
  go_wp2
  go_roundg k1
  case measure => have := HK1.out; omega
  case rel => exact ⟨(wrap64 (x8_1 + 1)), sR_, H', ⟨by have := HK1.out; omega⟩, by repeat (first | exact Drawn0.refl _ | apply Drawn0.step)⟩
 obtain rfl := Option.some.inj H
 go_wp2
 go_ret
 exact ⟨sR_, by repeat (first | exact Drawn0.refl _ | apply Drawn0.step)⟩
/-! ### slices_Contains_int_int: function 46 -/
def slices_Contains_int_int.f (k : Nat) (l0 : List Int) (a1 : Int) : Option (Bool) := (slices_Index_int_int.f k l0 a1).bind fun t244 => (some (decide (t244 ≥ 0)))
theorem slices_Contains_int_int.mono : ∀ a0 a1 k, LeO (slices_Contains_int_int.f k a0 a1) (slices_Contains_int_int.f (k + 1) a0 a1) := by
 intro a0 a1 k
 unfold slices_Contains_int_int.f
 exact mo1_ slices_Index_int_int.mono
set_option maxHeartbeats 8000000 in
set_option maxRecDepth 100000 in
theorem slices_Contains_int_int.calls (k : Nat) (A0 : Option Addr) (c0 : Nat) (l0 : List Int) (a1 : Int) (r : Bool) (w : World) (hr0 : Kd.C (Kd.int .i64) w A0 l0.length l0) (hc0 : l0.length ≤ c0) (h : slices_Contains_int_int.f k l0 a1 = some r) :
  Calls Tryz.prog 46 #[.slice A0 l0.length c0, .int .i64 a1] w fun e w' => e = .returned (.bool r) ∧ Drawn0 w w' := by
 have HR0 := aS_ hr0
 have HC0 := aS_ hc0
 clear hr0 hc0
 have H : ((slices_Index_int_int.f k l0 a1).bind fun t244 => (some (decide (t244 ≥ 0)))) = some r := h
 clear h
 replace H := bs_ H; obtain ⟨t244, A3, H⟩ := H
 obtain rfl := Option.some.inj H
 go_enter Tryz.func46, Tryz.ntmps46
 go_wp2_with (first | ((with_reducible refine gg_ ?_); refine gc_ 47 (some 7) Tryz.func47 #[.slice A0 l0.length c0, .int .i64 a1] ?_; (with_reducible refine (slices_Index_int_int.calls k _ _ l0 a1 t244 _ ?side1 ?side2 A3.out).mono ?_); (case side1 => repeat (first | exact HR0.out | (with_reducible refine Kd.C_alloc ?_ _) | (with_reducible refine Kd.C_drewN ?_ _) | (with_reducible refine Kd.C_drew ?_))); (case side2 => exact HC0.out); rintro e w' ⟨rfl, ⟨nd, rfl⟩⟩; refine ⟨_, rfl, ?_⟩))
 go_ret
 exact ⟨sR_, by repeat (first | exact Drawn0.refl _ | apply Drawn0.step)⟩
/-! ### impl_Table_cost: function 48 -/
def impl_Table_cost.f (l0_0 : List Int) (a1 : Int) : Option (Int) := if 0 ≤ a1 then (if a1 < (l0_0.length : Int) then (if (l0_0.length : Int) = 0 then (none) else (some (Int.tmod (wrap64 ((wrap64 (a1 - (Int.tmod (rd l0_0 a1) (l0_0.length : Int)))) + (l0_0.length : Int))) (l0_0.length : Int)))) else (none)) else (none)
set_option maxHeartbeats 8000000 in
set_option maxRecDepth 100000 in
theorem impl_Table_cost.calls (A0_0 : Option Addr) (c0_0 : Nat) (l0_0 : List Int) (a1 : Int) (r : Int) (w : World) (hr0_0 : Kd.C (Kd.int .i64) w A0_0 l0_0.length l0_0) (hc0_0 : l0_0.length ≤ c0_0) (h : impl_Table_cost.f l0_0 a1 = some r) :
  Calls Tryz.prog 48 #[.agg #[.slice A0_0 l0_0.length c0_0], .int .i64 a1] w fun e w' => e = .returned (.int .i64 r) ∧ Below w.heap.size w w' := by
 have hu26 := Tryz.underlying26
 have HR0_0 := aS_ hr0_0
 have HC0_0 := aS_ hc0_0
 clear hr0_0 hc0_0
 have HB := aS_ (Below.refl w.heap.size w)
 have H : (if 0 ≤ a1 then (if a1 < (l0_0.length : Int) then (if (l0_0.length : Int) = 0 then (none) else (some (Int.tmod (wrap64 ((wrap64 (a1 - (Int.tmod (rd l0_0 a1) (l0_0.length : Int)))) + (l0_0.length : Int))) (l0_0.length : Int)))) else (none)) else (none)) = some r := h
 clear h
 replace H := jd_ H; obtain ⟨c3b0, H⟩ := H
 replace H := jd_ H; obtain ⟨c4b0, H⟩ := H
 replace H := jn_ H; obtain ⟨c5, H⟩ := H
 have c5b0 : ((l0_0.length : Int) == 0) = false := beq_eq_false_iff_ne.mpr c5
 have c5b1 : ((l0_0.length : Int) != 0) = true := bne_iff_ne.mpr c5
 have c5b2 : ¬ (l0_0 = []) := fun h_ => c5 (by rw [h_]; rfl)
 obtain rfl := Option.some.inj H
 go_enter Tryz.func48, Tryz.ntmps48
 go_wp2_with (first | ((with_reducible refine gg_ ?_); refine bx_ 2 #[.slice A0_0 l0_0.length c0_0] 26 ?_; intro gb245 hg w6 hbox hb; have BK245 := aS_ (hbox); have GW245 := gE_ HB hg; have GE245 := gE_ HB hg; replace HB := bE_ HB hb; clear hb hbox hg; obtain ⟨hcz7_0, hfz7_0⟩ := c10_ BK245; have p246 : 0 ≤ (a1 : Int) := of_decide_eq_true (by assumption); have q246 : a1 < (l0_0.length : Int) := of_decide_eq_true (by assumption); obtain ⟨ad246, e246, hx246_0⟩ := Kd.at_int HR0_0.out a1 p246 q246; cases e246; replace hx246_0 := (HB.out.cell (World.block_lt_of_cell? w _ hx246_0)).trans hx246_0; replace p246 := eq_true p246; replace q246 := eq_true q246))
 go_ret
 exact ⟨eR_, bb_ HB⟩
/-! ### impl_between: function 37 -/
def impl_between.f (a0 : Int) (a1 : Int) (a2 : Int) : Option (Bool) := if a0 ≥ a1 then (some (decide (a0 ≤ a2))) else (some false)
set_option maxHeartbeats 8000000 in
set_option maxRecDepth 100000 in
theorem impl_between.calls (a0 : Int) (a1 : Int) (a2 : Int) (r : Bool) (w : World) (h : impl_between.f a0 a1 a2 = some r) :
  Calls Tryz.prog 37 #[.int .i64 a0, .int .i64 a1, .int .i64 a2] w fun e w' => e = .returned (.bool r) ∧ Drawn0 w w' := by
 have H : (if a0 ≥ a1 then (some (decide (a0 ≤ a2))) else (some false)) = some r := h
 clear h
 replace H := id_ H; rcases H with ⟨c4b0, H⟩ | ⟨c4b0, H⟩
 ·obtain rfl := Option.some.inj H
  go_enter Tryz.func37, Tryz.ntmps37
  go_wp2
  go_ret
  exact ⟨sR_, by repeat (first | exact Drawn0.refl _ | apply Drawn0.step)⟩
 obtain rfl := Option.some.inj H
 go_enter Tryz.func37, Tryz.ntmps37
 go_wp2
 go_ret
 exact ⟨sR_, by repeat (first | exact Drawn0.refl _ | apply Drawn0.step)⟩
/-! ### impl_isSize: function 60 -/
def impl_isSize.f (a0 : Int) : Option (Bool) := (impl_between.f a0 2 12).bind fun t247 => (some t247)
set_option maxHeartbeats 8000000 in
set_option maxRecDepth 100000 in
theorem impl_isSize.calls (a0 : Int) (r : Bool) (w : World) (h : impl_isSize.f a0 = some r) :
  Calls Tryz.prog 60 #[.int .i64 a0] w fun e w' => e = .returned (.bool r) ∧ Drawn0 w w' := by
 have H : ((impl_between.f a0 2 12).bind fun t247 => (some t247)) = some r := h
 clear h
 replace H := bs_ H; obtain ⟨t247, A2, H⟩ := H
 obtain rfl := Option.some.inj H
 go_enter Tryz.func60, Tryz.ntmps60
 go_wp2_with (first | ((with_reducible refine gg_ ?_); refine gc_ 37 (some 4) Tryz.func37 #[.int .i64 a0, .int .i64 2, .int .i64 12] ?_; (with_reducible refine (impl_between.calls a0 2 12 t247 _ A2.out).mono ?_); rintro e w' ⟨rfl, ⟨nd, rfl⟩⟩; refine ⟨_, rfl, ?_⟩))
 go_ret
 exact ⟨sR_, by repeat (first | exact Drawn0.refl _ | apply Drawn0.step)⟩
end Go.Proofs.YteakjjimkagmkaaGreatDoor.G
namespace Go.Proofs.YteakjjimkagmkaaGreatDoor.G
open Go.RowKit Go.Proofs.YteakjjimkagmkaaGreatDoorW.PrintWords Go.Proofs.YteakjjimkagmkaaGreatDoorW.PrintLast Go.Proofs.YteakjjimkagmkaaGreatDoorW.PrintMore
/-- A function value that is a predicate on ints, in every world in which what lay still lies. -/
def PredB (g : Nat) (lb : Array Value) (p : Int → Bool) (w : World) : Prop :=
  ∀ (W : World) (x : Int), Below w.heap.size w W → Calls Tryz.prog g (#[.int .i64 x] ++ lb) W fun e w' => e = .returned (.bool (p x)) ∧ ∃ q, w' = W.drewN q
theorem PredB.later {g : Nat} {lb : Array Value} {p : Int → Bool} {w W : World} (h : PredB g lb p w) (hb : Below w.heap.size w W) : PredB g lb p W :=
  fun W' x hb' => h W' x (below_then hb hb.size hb')
theorem drew_below (w : World) (q : Nat) : Below w.heap.size w (w.drewN q) := pw_below_drewN (Below.refl _ w) q
/-- The place of the first element at which p holds, from place i on; -1 where there is none. -/
def idxF (p : Int → Bool) : List Int → Int → Int
  | [], _ => -1
  | x :: r, i => if p x = true then i else idxF p r (i + 1)
theorem idxF_hit (p : Int → Bool) : ∀ (l : List Int) (k : Nat) (i : Int), k < l.length → (∀ j, j < k → p (l.getD j 0) = false) → p (l.getD k 0) = true → idxF p l i = i + k
  | [], k, i, h, _, _ => by simp at h
  | x :: r, 0, i, h, h1, h2 => by
    have : p x = true := by simpa using h2
    simp [idxF, this]
  | x :: r, k + 1, i, h, h1, h2 => by
    have h0 : p x = false := by simpa using h1 0 (by omega)
    have := idxF_hit p r k (i + 1) (by simpa using h) (fun j hj => by simpa using h1 (j + 1) (by omega)) (by simpa using h2)
    simp only [idxF, h0, Bool.false_eq_true, if_false, this]
    push_cast
    omega
theorem idxF_miss (p : Int → Bool) : ∀ (l : List Int) (i : Int), (∀ j, j < l.length → p (l.getD j 0) = false) → idxF p l i = -1
  | [], i, _ => rfl
  | x :: r, i, h => by
    have h0 : p x = false := by simpa using h 0 (by simp)
    have := idxF_miss p r (i + 1) (fun j hj => by simpa using h (j + 1) (by simpa using hj))
    simp [idxF, h0, this]
theorem idxF_nonneg (p : Int → Bool) : ∀ (l : List Int) (i : Int), 0 ≤ i → decide (0 ≤ idxF p l i) = l.any p
  | [], i, _ => by simp [idxF]
  | x :: r, i, hi => by
    cases hx : p x with
    | true => simp [idxF, hx, hi]
    | false => simp only [idxF, hx, Bool.false_eq_true, if_false, List.any_cons, Bool.false_or]; exact idxF_nonneg p r (i + 1) (by omega)
set_option maxHeartbeats 2000000 in
theorem slices_IndexFunc.callsP (A : Option Addr) (c : Nat) (l : List Int) (g : Nat) (lb : Array Value) (p : Int → Bool) (w : World)
    (eg : ∀ args w, (callFunc g args).run Tryz.prog w = .ok (.enter g args) w)
    (hp0 : PredB g lb p w) (hr : Kd.C (Kd.int .i64) w A l.length l) (hc : l.length ≤ c) :
    Calls Tryz.prog 63 #[.slice A l.length c, .func (.func g) #[] lb] w fun e w' => e = .returned (.int .i64 (idxF p l 0)) ∧ ∃ q, w' = w.drewN q := by
  have hbig : l.length ≤ 9223372036854775807 := hr.2.1
  have HR := Aside0.mk hr
  clear hr hc
  have hpAt : ∀ (x : Int) (q : Nat), Calls Tryz.prog g (#[.int .i64 x] ++ lb) (w.drewN q) fun e w' => e = .returned (.bool (p x)) ∧ ∃ q', w' = (w.drewN q).drewN q' := fun x q => hp0 _ x (drew_below w q)
  clear hp0
  go_enter Tryz.func63, Tryz.ntmps63
  go_wp2
  go_loopg [5, 8] l.length (fun gg _ s8 wr => ∃ kk q : Nat, kk ≤ l.length ∧ l.length - kk ≤ gg ∧ s8 = .int .i64 kk ∧ wr = w.drewN q ∧ Aside0 (∀ j, j < kk → p (l.getD j 0) = false))
  case atStart => exact ⟨0, 0, Nat.zero_le _, by omega, rfl, rfl, ⟨fun j hj => absurd hj (Nat.not_lt_zero _)⟩⟩
  case round =>
    obtain ⟨kk, q, hkk, hg, rfl, rfl, AA⟩ := hrel
    by_cases hlt : kk < l.length
    · have hltz : (kk : Int) < (l.length : Int) := by omega
      obtain ⟨ad, rfl, hx⟩ := Kd.at_int HR.out (kk : Int) (by omega) hltz
      rw [Int.toNat_natCast] at hx
      obtain ⟨y, hy⟩ : ∃ y, y = rd l (kk : Int) := ⟨_, rfl⟩
      rw [← hy] at hx
      have B : Aside0 (l.getD kk 0 = y) := ⟨by rw [hy, rd, Int.toNat_natCast]⟩
      clear hy
      have hcall := hpAt y
      cases hq : p y with
      | true =>
        rw [hq] at hcall
        go_wp2_with (go_at_fn g; refine (hcall _).mono ?_; rintro e w' ⟨rfl, q', rfl⟩)
        go_ret
        refine ⟨?_, _, rfl⟩
        rw [idxF_hit p l kk 0 hlt AA.out (by rw [B.out]; exact hq)]
        simp
      | false =>
        rw [hq] at hcall
        go_wp2_with (go_at_fn g; refine (hcall _).mono ?_; rintro e w' ⟨rfl, q', rfl⟩)
        go_roundg (l.length - (kk + 1))
        case measure => omega
        case rel =>
          refine ⟨kk + 1, _, by omega, by omega, by go_num, rfl, ⟨fun j hj => ?_⟩⟩
          by_cases e : j = kk
          · subst e
            rw [B.out]; exact hq
          · exact AA.out j (by omega)
    · have hltz : ¬ (kk : Int) < (l.length : Int) := by omega
      obtain rfl : kk = l.length := by omega
      go_wp2
      go_ret
      refine ⟨?_, q, rfl⟩
      rw [idxF_miss p l 0 AA.out]; rfl
set_option maxHeartbeats 1000000 in
theorem slices_ContainsFunc.callsP (A : Option Addr) (c : Nat) (l : List Int) (g : Nat) (lb : Array Value) (p : Int → Bool) (w : World)
    (eg : ∀ args w, (callFunc g args).run Tryz.prog w = .ok (.enter g args) w)
    (hp0 : PredB g lb p w) (hr : Kd.C (Kd.int .i64) w A l.length l) (hc : l.length ≤ c) :
    Calls Tryz.prog 89 #[.slice A l.length c, .func (.func g) #[] lb] w fun e w' => e = .returned (.bool (l.any p)) ∧ ∃ q, w' = w.drewN q := by
  rw [← idxF_nonneg p l 0 (by omega)]
  have HR := Aside0.mk hr
  have HP := Aside0.mk hp0
  clear hr hp0
  go_enter Tryz.func89, Tryz.ntmps89
  go_wp2_with (go_at_call 63; refine (slices_IndexFunc.callsP _ _ l g lb p _ eg HP.out HR.out hc).mono ?_; rintro e w' ⟨rfl, q, rfl⟩)
  go_ret
  exact ⟨rfl, q, rfl⟩
def outP (a1 a2 x : Int) : Bool := !(decide (a1 ≤ x) && decide (x ≤ a2))
def impl_areBetween.f (l0 : List Int) (a1 : Int) (a2 : Int) : Option (Bool) := some (l0.all fun x => decide (a1 ≤ x) && decide (x ≤ a2))
set_option maxHeartbeats 2000000 in
theorem areBetween_pred (g1 g2 : Nat) (a1 a2 : Int) (w : World) (h1 : w.cell? ⟨g1, 0, none⟩ = some (.int .i64 a1)) (h2 : w.cell? ⟨g2, 0, none⟩ = some (.int .i64 a2)) :
    PredB 90 #[.pointer (some ⟨g1, 0, none⟩), .pointer (some ⟨g2, 0, none⟩)] (outP a1 a2) w := by
  intro W x hb
  have k1 := pw_cell_below hb h1
  have k2 := pw_cell_below hb h2
  clear h1 h2 hb
  simp only [List.append_toArray, List.cons_append, List.nil_append]
  by_cases c1 : a1 ≤ x
  · have d1 : decide (a1 ≤ x) = true := decide_eq_true c1
    by_cases c2 : x ≤ a2
    · have d2 : decide (x ≤ a2) = true := decide_eq_true c2
      go_enter Tryz.func90, Tryz.ntmps90
      go_wp2
      go_ret
      exact ⟨by simp [outP, d1, d2], 0, rfl⟩
    · have d2 : decide (x ≤ a2) = false := decide_eq_false c2
      go_enter Tryz.func90, Tryz.ntmps90
      go_wp2
      go_ret
      exact ⟨by simp [outP, d1, d2], 0, rfl⟩
  · have d1 : decide (a1 ≤ x) = false := decide_eq_false c1
    go_enter Tryz.func90, Tryz.ntmps90
    go_wp2
    go_ret
    exact ⟨by simp [outP, d1], 0, rfl⟩
theorem any_not (l : List Int) (p : Int → Bool) : (!l.any fun x => !p x) = l.all p := by
  induction l with
  | nil => rfl
  | cons x r ih => simp only [List.any_cons, List.all_cons, Bool.not_or, Bool.not_not, ih]
set_option maxHeartbeats 2000000 in
theorem impl_areBetween.calls (A0 : Option Addr) (c0 : Nat) (l0 : List Int) (a1 : Int) (a2 : Int) (r : Bool) (w : World) (hr0 : Kd.C (Kd.int .i64) w A0 l0.length l0) (hc0 : l0.length ≤ c0) (h : impl_areBetween.f l0 a1 a2 = some r) :
    Calls Tryz.prog 62 #[.slice A0 l0.length c0, .int .i64 a1, .int .i64 a2] w fun e w' => e = .returned (.bool r) ∧ Below w.heap.size w w' := by
  have e1 : r = !l0.any (outP a1 a2) := by
    have := (Option.some.inj h).symm
    rw [this, ← any_not]; rfl
  subst e1
  have HR := Aside0.mk hr0
  clear hr0 h
  go_enter Tryz.func62, Tryz.ntmps62
  go_wp2_with (go_at_call 89; refine (slices_ContainsFunc.callsP _ _ l0 _ _ _ _ (enters_of Tryz.func90 (by kernel_rfl) rfl) (areBetween_pred _ _ a1 a2 _ ?hc1 ?hc2) (Kd.C_alloc (Kd.C_alloc HR.out _) _) hc0).mono ?_; (case hc1 => simp [go_sem]); (case hc2 => simp [go_sem]); rintro e w' ⟨rfl, q, rfl⟩)
  go_ret
  exact ⟨rfl, pw_below_drewN (below_alloc (below_alloc (Below.refl _ _) _) _) q⟩
end Go.Proofs.YteakjjimkagmkaaGreatDoor.G
namespace Go.Proofs.YteakjjimkagmkaaGreatDoor.G
open Go.RowKit Go.Proofs.YteakjjimkagmkaaGreatDoorW.PrintWords Go.Proofs.YteakjjimkagmkaaGreatDoorW.PrintLast Go.Proofs.YteakjjimkagmkaaGreatDoorW.PrintMore
attribute [local go_sem] max2_int min2_int max_two min_two max_three min_three max_four min_four   -- for this text's walks alone
/-! ### impl_isTable: function 28 -/
mutual
def impl_isTable.j0 : Nat → Bool → List Int → Option (Bool)
 | 0, _, _ => none
 | k + 1, x22, x249000 => if x22 = true then (some false) else (impl_isTable.l0 k x249000 (x249000.length : Int) 0 x249000)
def impl_isTable.l0 : Nat → List Int → Int → Int → List Int → Option (Bool)
 | 0, _, _, _, _ => none
 | k + 1, x24, x25, x26, x249000 => if x26 < x25 then (if 0 ≤ x26 then (if x26 < (x24.length : Int) then (if (rd x24 x26) < 0 then (impl_isTable.l0 k x24 x25 (wrap64 (x26 + 1)) x249000) else (if x26 ≤ (x249000.length : Int) then ((slices_Contains_int_int.f k (x249000.take (x26 : Int).toNat) (rd x24 x26)).bind fun t254 => (if t254 = true then (some false) else ((impl_Table_cost.f x249000 x26).bind fun t255 => (impl_isTable.l1 k (rd x24 x26) x24 x25 x26 t255 0 x249000)))) else (none))) else (none)) else (none)) else (some true)
def impl_isTable.l1 : Nat → Int → List Int → Int → Int → Int → Int → List Int → Option (Bool)
 | 0, _, _, _, _, _, _, _ => none
 | k + 1, x4, x24, x25, x26, x41, x42, x249000 => if x42 < x41 then (if (x249000.length : Int) = 0 then (none) else (if 0 ≤ (Int.tmod (wrap64 (x4 + x42)) (x249000.length : Int)) then (if (Int.tmod (wrap64 (x4 + x42)) (x249000.length : Int)) < (x249000.length : Int) then (if (rd x249000 (Int.tmod (wrap64 (x4 + x42)) (x249000.length : Int))) < 0 then (some false) else (impl_isTable.l1 k x4 x24 x25 x26 x41 (wrap64 (x42 + 1)) x249000)) else (none)) else (none))) else (impl_isTable.l0 k x24 x25 (wrap64 (x26 + 1)) x249000)
end
def impl_isTable.f (k : Nat) (l0_0 : List Int) : Option (Bool) := (impl_isSize.f (l0_0.length : Int)).bind fun t249 => (if t249 = true then ((impl_areBetween.f l0_0 (-1) 999).bind fun t250 => (if t250 = true then ((slices_Contains_int_int.f k l0_0 (-1)).bind fun t251 => (impl_isTable.j0 k (!t251) l0_0)) else (impl_isTable.j0 k true l0_0))) else (impl_isTable.j0 k true l0_0))
theorem impl_isTable.mono_l : ∀ k, (∀ y0 y1, LeO (impl_isTable.j0 k y0 y1) (impl_isTable.j0 (k + 1) y0 y1)) ∧ (∀ y0 y1 y2 y3, LeO (impl_isTable.l0 k y0 y1 y2 y3) (impl_isTable.l0 (k + 1) y0 y1 y2 y3)) ∧ (∀ y0 y1 y2 y3 y4 y5 y6, LeO (impl_isTable.l1 k y0 y1 y2 y3 y4 y5 y6) (impl_isTable.l1 (k + 1) y0 y1 y2 y3 y4 y5 y6))
 | 0 => ⟨fun _ _ r h => by simp [impl_isTable.j0] at h, fun _ _ _ _ r h => by simp [impl_isTable.l0] at h, fun _ _ _ _ _ _ _ r h => by simp [impl_isTable.l1] at h⟩
 | k + 1 => by
  obtain ⟨ih0, ih1, ih2⟩ := impl_isTable.mono_l k
  refine ⟨?_, ?_, ?_⟩
  ·intro y0 y1
   unfold impl_isTable.j0
   exact mo4_ ih0 ih1 ih2 slices_Contains_int_int.mono
  ·intro y0 y1 y2 y3
   unfold impl_isTable.l0
   exact mo4_ ih0 ih1 ih2 slices_Contains_int_int.mono
  intro y0 y1 y2 y3 y4 y5 y6
  unfold impl_isTable.l1
  exact mo4_ ih0 ih1 ih2 slices_Contains_int_int.mono
theorem impl_isTable.mono : ∀ a0 k, LeO (impl_isTable.f k a0) (impl_isTable.f (k + 1) a0) := by
 intro a0 k
 obtain ⟨ih0, ih1, ih2⟩ := impl_isTable.mono_l k
 unfold impl_isTable.f
 exact mo4_ ih0 ih1 ih2 slices_Contains_int_int.mono
set_option maxHeartbeats 8000000 in
set_option maxRecDepth 100000 in
theorem impl_isTable.calls (k : Nat) (A0_0 : Option Addr) (c0_0 : Nat) (l0_0 : List Int) (r : Bool) (w : World) (hr0_0 : Kd.C (Kd.int .i64) w A0_0 l0_0.length l0_0) (hc0_0 : l0_0.length ≤ c0_0) (h : impl_isTable.f k l0_0 = some r) :
  Calls Tryz.prog 28 #[.agg #[.slice A0_0 l0_0.length c0_0]] w fun e w' => e = .returned (.bool r) ∧ Below w.heap.size w w' := by
 have hu26 := Tryz.underlying26
 have HR0_0 := aS_ hr0_0
 have HC0_0 := aS_ hc0_0
 clear hr0_0 hc0_0
 have HB := aS_ (Below.refl w.heap.size w)
 have H : ((impl_isSize.f (l0_0.length : Int)).bind fun t249 => (if t249 = true then ((impl_areBetween.f l0_0 (-1) 999).bind fun t250 => (if t250 = true then ((slices_Contains_int_int.f k l0_0 (-1)).bind fun t251 => (impl_isTable.j0 k (!t251) l0_0)) else (impl_isTable.j0 k true l0_0))) else (impl_isTable.j0 k true l0_0))) = some r := h
 clear h
 have HC2 := aS_ H
 clear H
 go_enter Tryz.func28, Tryz.ntmps28
 go_upto_region 1 with (first | ((with_reducible refine gg_ ?_); refine bx_ 1 #[.slice A0_0 l0_0.length c0_0] 26 ?_; intro gb248 hg w3 hbox hb; have BK248 := aS_ (hbox); have GW248 := gE_ HB hg; have GE248 := gE_ HB hg; replace HB := bE_ HB hb; clear hb hbox hg))
 repeat (go_quiet (first | ((with_reducible refine gg_ ?_); refine bx_ 1 #[.slice A0_0 l0_0.length c0_0] 26 ?_; intro gb248 hg w3 hbox hb; have BK248 := aS_ (hbox); have GW248 := gE_ HB hg; have GE248 := gE_ HB hg; replace HB := bE_ HB hb; clear hb hbox hg)); go_upto_region 1 with (first | ((with_reducible refine gg_ ?_); refine bx_ 1 #[.slice A0_0 l0_0.length c0_0] 26 ?_; intro gb248 hg w3 hbox hb; have BK248 := aS_ (hbox); have GW248 := gE_ HB hg; have GE248 := gE_ HB hg; replace HB := bE_ HB hb; clear hb hbox hg)))
 (try simp only [Act.put, List.setIfInBounds_toArray, List.set_cons_zero, List.set_cons_succ])
 go_cut [22] (fun v22 wc => ∃ (kq : Nat) (x22_1 : Bool), v22 = .bool x22_1 ∧ Aside0 (impl_isTable.j0 kq x22_1 l0_0 = some r) ∧ Aside0 (kq ≤ k) ∧ Aside0 (wc.heap[gb248]? = some (.cells #[(.slice A0_0 l0_0.length c0_0)] 26 (0, 0))) ∧ Aside0 (Below w.heap.size w wc))
 case first =>
  have H := HC2.out
  clear HC2
  replace H := bs_ H; obtain ⟨t249, A4, H⟩ := H
  replace H := it_ H; rcases H with ⟨rfl, H⟩ | ⟨rfl, H⟩
  ·replace H := bs_ H; obtain ⟨t250, A6, H⟩ := H
   replace H := it_ H; rcases H with ⟨rfl, H⟩ | ⟨rfl, H⟩
   ·replace H := bs_ H; obtain ⟨t251, A8, H⟩ := H
    have H' := aS_ H
    clear H
    obtain ⟨hcz9_0, hfz9_0⟩ := c10_ BK248
    go_wp2_with (first | (go_at_call 60; (with_reducible refine (impl_isSize.calls (l0_0.length : Int) true _ A4.out).mono ?_); rintro e w' ⟨rfl, ⟨nd, rfl⟩⟩; (try exact dR_)) | (go_at_call 62; (with_reducible refine (impl_areBetween.calls _ _ l0_0 (-1) 999 true _ ?side1 ?side2 A6.out).mono ?_); (case side1 => exact cD_ HR0_0 HB); (case side2 => exact HC0_0.out); rintro e w10 ⟨rfl, hb⟩; replace BK248 := kO_ BK248 hb; replace HB := bE_ HB hb; (try clear hb); obtain ⟨hcz11_0, hfz11_0⟩ := c10_ BK248) | (go_at_call 46; (with_reducible refine (slices_Contains_int_int.calls k _ _ l0_0 (-1) t251 _ ?side1 ?side2 A8.out).mono ?_); (case side1 => exact cB_ HR0_0 HB); (case side2 => exact HC0_0.out); rintro e w' ⟨rfl, ⟨nd, rfl⟩⟩; (try exact dR_)))
    repeat (go_quiet (first | (go_at_call 60; (with_reducible refine (impl_isSize.calls (l0_0.length : Int) true _ A4.out).mono ?_); rintro e w' ⟨rfl, ⟨nd, rfl⟩⟩; (try exact dR_)) | (go_at_call 62; (with_reducible refine (impl_areBetween.calls _ _ l0_0 (-1) 999 true _ ?side1 ?side2 A6.out).mono ?_); (case side1 => exact cD_ HR0_0 HB); (case side2 => exact HC0_0.out); rintro e w10 ⟨rfl, hb⟩; replace BK248 := kO_ BK248 hb; replace HB := bE_ HB hb; (try clear hb); obtain ⟨hcz11_0, hfz11_0⟩ := c10_ BK248) | (go_at_call 46; (with_reducible refine (slices_Contains_int_int.calls k _ _ l0_0 (-1) t251 _ ?side1 ?side2 A8.out).mono ?_); (case side1 => exact cB_ HR0_0 HB); (case side2 => exact HC0_0.out); rintro e w' ⟨rfl, ⟨nd, rfl⟩⟩; (try exact dR_))); try go_wp2_with (first | (go_at_call 60; (with_reducible refine (impl_isSize.calls (l0_0.length : Int) true _ A4.out).mono ?_); rintro e w' ⟨rfl, ⟨nd, rfl⟩⟩; (try exact dR_)) | (go_at_call 62; (with_reducible refine (impl_areBetween.calls _ _ l0_0 (-1) 999 true _ ?side1 ?side2 A6.out).mono ?_); (case side1 => exact cD_ HR0_0 HB); (case side2 => exact HC0_0.out); rintro e w10 ⟨rfl, hb⟩; replace BK248 := kO_ BK248 hb; replace HB := bE_ HB hb; (try clear hb); obtain ⟨hcz11_0, hfz11_0⟩ := c10_ BK248) | (go_at_call 46; (with_reducible refine (slices_Contains_int_int.calls k _ _ l0_0 (-1) t251 _ ?side1 ?side2 A8.out).mono ?_); (case side1 => exact cB_ HR0_0 HB); (case side2 => exact HC0_0.out); rintro e w' ⟨rfl, ⟨nd, rfl⟩⟩; (try exact dR_))))
    go_meet
    case rel => exact ⟨_, (!t251), sR_, H', ⟨by first | omega | exact Nat.le_refl _⟩, ⟨kk_ BK248⟩, ⟨bb_ HB⟩⟩
   have H' := aS_ H
   clear H
   obtain ⟨hcz12_0, hfz12_0⟩ := c10_ BK248
   go_wp2_with (first | (go_at_call 60; (with_reducible refine (impl_isSize.calls (l0_0.length : Int) true _ A4.out).mono ?_); rintro e w' ⟨rfl, ⟨nd, rfl⟩⟩; (try exact dR_)) | (go_at_call 62; (with_reducible refine (impl_areBetween.calls _ _ l0_0 (-1) 999 false _ ?side1 ?side2 A6.out).mono ?_); (case side1 => exact cD_ HR0_0 HB); (case side2 => exact HC0_0.out); rintro e w13 ⟨rfl, hb⟩; replace BK248 := kO_ BK248 hb; replace HB := bE_ HB hb; (try clear hb)))
   repeat (go_quiet (first | (go_at_call 60; (with_reducible refine (impl_isSize.calls (l0_0.length : Int) true _ A4.out).mono ?_); rintro e w' ⟨rfl, ⟨nd, rfl⟩⟩; (try exact dR_)) | (go_at_call 62; (with_reducible refine (impl_areBetween.calls _ _ l0_0 (-1) 999 false _ ?side1 ?side2 A6.out).mono ?_); (case side1 => exact cD_ HR0_0 HB); (case side2 => exact HC0_0.out); rintro e w13 ⟨rfl, hb⟩; replace BK248 := kO_ BK248 hb; replace HB := bE_ HB hb; (try clear hb))); try go_wp2_with (first | (go_at_call 60; (with_reducible refine (impl_isSize.calls (l0_0.length : Int) true _ A4.out).mono ?_); rintro e w' ⟨rfl, ⟨nd, rfl⟩⟩; (try exact dR_)) | (go_at_call 62; (with_reducible refine (impl_areBetween.calls _ _ l0_0 (-1) 999 false _ ?side1 ?side2 A6.out).mono ?_); (case side1 => exact cD_ HR0_0 HB); (case side2 => exact HC0_0.out); rintro e w13 ⟨rfl, hb⟩; replace BK248 := kO_ BK248 hb; replace HB := bE_ HB hb; (try clear hb))))
   go_meet
   case rel => exact ⟨_, (true), sR_, H', ⟨by first | omega | exact Nat.le_refl _⟩, ⟨kk_ BK248⟩, ⟨bb_ HB⟩⟩
  have H' := aS_ H
  clear H
  obtain ⟨hcz14_0, hfz14_0⟩ := c10_ BK248
  go_wp2_with (first | (go_at_call 60; (with_reducible refine (impl_isSize.calls (l0_0.length : Int) false _ A4.out).mono ?_); rintro e w' ⟨rfl, ⟨nd, rfl⟩⟩; (try exact dR_)))
  repeat (go_quiet (first | (go_at_call 60; (with_reducible refine (impl_isSize.calls (l0_0.length : Int) false _ A4.out).mono ?_); rintro e w' ⟨rfl, ⟨nd, rfl⟩⟩; (try exact dR_))); try go_wp2_with (first | (go_at_call 60; (with_reducible refine (impl_isSize.calls (l0_0.length : Int) false _ A4.out).mono ?_); rintro e w' ⟨rfl, ⟨nd, rfl⟩⟩; (try exact dR_))))
  go_meet
  case rel => exact ⟨_, (true), sR_, H', ⟨by first | omega | exact Nat.le_refl _⟩, ⟨kk_ BK248⟩, ⟨bb_ HB⟩⟩
 case rest =>
 clear HC2
 obtain ⟨kq, x22_1, rfl, HA, HJ1, BK248, HB⟩ := hcut
 cases kq with
 | zero => exact absurd HA.out (by simp [impl_isTable.j0])
 | succ kj1 =>
 have H := HA.out
 clear HA
 simp only [impl_isTable.j0] at H
 replace H := it_ H; rcases H with ⟨rfl, H⟩ | ⟨rfl, H⟩
 ·obtain rfl := Option.some.inj H
  go_wp2
  repeat (go_quiet (fail); try go_wp2)
  go_ret
  exact ⟨eR_, bb_ HB⟩
 have H' := aS_ H
 clear H
 obtain ⟨hcz16_0, hfz16_0⟩ := c10_ BK248
 go_wp2
 repeat (go_quiet (fail); try go_wp2)
 go_loopg [26] kj1 (fun kq v26 w' => ∃ (x26_2 : Int), v26 = .int .i64 x26_2 ∧ Aside0 (impl_isTable.l0 kq l0_0 (l0_0.length : Int) x26_2 l0_0 = some r) ∧ Aside0 (kq ≤ kj1) ∧ Aside0 (w'.heap[gb248]? = some (.cells #[(.slice A0_0 l0_0.length c0_0)] 26 (0, 0))) ∧ Aside0 (Below w.heap.size w w'))
 case atStart => exact ⟨(0), sR_, H', ⟨Nat.le_refl _⟩, ⟨kk_ BK248⟩, ⟨bb_ HB⟩⟩
 case round =>
 clear H'
 try clear hcz16_0
 try clear hfz16_0
 obtain ⟨x26_2, rfl, HA, HK2, BK248, HB⟩ := hrel
 cases gk with
 | zero => exact absurd HA.out (by simp [impl_isTable.l0])
 | succ k2 =>
 have H := HA.out
 clear HA
 simp only [impl_isTable.l0] at H
 replace H := id_ H; rcases H with ⟨c17b0, H⟩ | ⟨c17b0, H⟩
 ·replace H := jd_ H; obtain ⟨c18b0, H⟩ := H
  replace H := jd_ H; obtain ⟨c19b0, H⟩ := H
  replace H := id_ H; rcases H with ⟨c20b0, H⟩ | ⟨c20b0, H⟩
  ·have H' := aS_ H
   clear H
   have p252 : 0 ≤ (x26_2 : Int) := of_decide_eq_true (by assumption)
   have q252 : x26_2 < (l0_0.length : Int) := of_decide_eq_true (by assumption)
   obtain ⟨ad252, e252, hx252_0⟩ := Kd.at_int HR0_0.out x26_2 p252 q252
   cases e252
   replace hx252_0 := (HB.out.cell (World.block_lt_of_cell? w _ hx252_0)).trans hx252_0
   replace p252 := eq_true p252
   replace q252 := eq_true q252
   go_wp2
   repeat (go_quiet (fail); try go_wp2)
   go_roundg k2
   case measure => have := HJ1.out; have := HK2.out; omega
   case rel => exact ⟨(wrap64 (x26_2 + 1)), sR_, H', ⟨by have := HJ1.out; have := HK2.out; omega⟩, ⟨kk_ BK248⟩, ⟨bb_ HB⟩⟩
  have c21b0 := eq_true (of_decide_eq_true (by assumption) : 0 ≤ x26_2)
  replace H := je_ H; obtain ⟨c22b0, c22b1, H⟩ := H
  replace H := bs_ H; obtain ⟨t254, A23, H⟩ := H
  replace H := it_ H; rcases H with ⟨rfl, H⟩ | ⟨rfl, H⟩
  ·obtain rfl := Option.some.inj H
   have p252 : 0 ≤ (x26_2 : Int) := of_decide_eq_true (by assumption)
   have q252 : x26_2 < (l0_0.length : Int) := of_decide_eq_true (by assumption)
   obtain ⟨ad252, e252, hx252_0⟩ := Kd.at_int HR0_0.out x26_2 p252 q252
   cases e252
   replace hx252_0 := (HB.out.cell (World.block_lt_of_cell? w _ hx252_0)).trans hx252_0
   replace p252 := eq_true p252
   replace q252 := eq_true q252
   obtain ⟨hcz25_0, hfz25_0⟩ := c10_ BK248
   obtain ⟨i026, hi026, _, hsz26, _⟩ := info_parts info3
   obtain ⟨hcut26, hA26, hC26⟩ := print_take_of (P := Tryz.prog) (Value.int .i64) 0 24 3 .i64 Tryz.underlying24 hi026 hsz26 (some ad252) c0_0 l0_0 x26_2 (of_decide_eq_true (by assumption)) (of_decide_eq_true (by assumption)) HC0_0.out
   have HR253 := aS_ (Kd.C_of_reads (h1 := fun _ => rfl) (hA26 _ (Kd.reads_of_C HR0_0.out)))
   have HC253 := aS_ hC26
   clear hA26 hC26 hi026 hsz26
   go_wp2_with (first | (go_at_call 46; (refine' calls_args ?ha_ ((slices_Contains_int_int.calls k2 _ _ (l0_0.take (x26_2 : Int).toNat) (rd l0_0 x26_2) true _ ?side1 ?side2 A23.out).mono ?_)); (case ha_ => first | rfl | (rw [List.length_take, Nat.min_eq_left (by have q_ : x26_2 ≤ (l0_0.length : Int) := of_decide_eq_true (by assumption); omega)]) | (rw [List.length_take, Nat.min_eq_left (by omega)])); (case side1 => exact cB_ HR253 HB); (case side2 => exact HC253.out); rintro e w' ⟨rfl, ⟨nd, rfl⟩⟩; (try exact dR_)))
   repeat (go_quiet (first | (go_at_call 46; (refine' calls_args ?ha_ ((slices_Contains_int_int.calls k2 _ _ (l0_0.take (x26_2 : Int).toNat) (rd l0_0 x26_2) true _ ?side1 ?side2 A23.out).mono ?_)); (case ha_ => first | rfl | (rw [List.length_take, Nat.min_eq_left (by have q_ : x26_2 ≤ (l0_0.length : Int) := of_decide_eq_true (by assumption); omega)]) | (rw [List.length_take, Nat.min_eq_left (by omega)])); (case side1 => exact cB_ HR253 HB); (case side2 => exact HC253.out); rintro e w' ⟨rfl, ⟨nd, rfl⟩⟩; (try exact dR_))); try go_wp2_with (first | (go_at_call 46; (refine' calls_args ?ha_ ((slices_Contains_int_int.calls k2 _ _ (l0_0.take (x26_2 : Int).toNat) (rd l0_0 x26_2) true _ ?side1 ?side2 A23.out).mono ?_)); (case ha_ => first | rfl | (rw [List.length_take, Nat.min_eq_left (by have q_ : x26_2 ≤ (l0_0.length : Int) := of_decide_eq_true (by assumption); omega)]) | (rw [List.length_take, Nat.min_eq_left (by omega)])); (case side1 => exact cB_ HR253 HB); (case side2 => exact HC253.out); rintro e w' ⟨rfl, ⟨nd, rfl⟩⟩; (try exact dR_))))
   go_ret
   exact ⟨eR_, bb_ HB⟩
  replace H := bs_ H; obtain ⟨t255, A27, H⟩ := H
  have H' := aS_ H
  clear H
  have p252 : 0 ≤ (x26_2 : Int) := of_decide_eq_true (by assumption)
  have q252 : x26_2 < (l0_0.length : Int) := of_decide_eq_true (by assumption)
  obtain ⟨ad252, e252, hx252_0⟩ := Kd.at_int HR0_0.out x26_2 p252 q252
  cases e252
  replace hx252_0 := (HB.out.cell (World.block_lt_of_cell? w _ hx252_0)).trans hx252_0
  replace p252 := eq_true p252
  replace q252 := eq_true q252
  obtain ⟨hcz28_0, hfz28_0⟩ := c10_ BK248
  obtain ⟨i029, hi029, _, hsz29, _⟩ := info_parts info3
  obtain ⟨hcut29, hA29, hC29⟩ := print_take_of (P := Tryz.prog) (Value.int .i64) 0 24 3 .i64 Tryz.underlying24 hi029 hsz29 (some ad252) c0_0 l0_0 x26_2 (of_decide_eq_true (by assumption)) (of_decide_eq_true (by assumption)) HC0_0.out
  have HR253 := aS_ (Kd.C_of_reads (h1 := fun _ => rfl) (hA29 _ (Kd.reads_of_C HR0_0.out)))
  have HC253 := aS_ hC29
  clear hA29 hC29 hi029 hsz29
  go_wp2_with (first | (go_at_call 46; (refine' calls_args ?ha_ ((slices_Contains_int_int.calls k2 _ _ (l0_0.take (x26_2 : Int).toNat) (rd l0_0 x26_2) false _ ?side1 ?side2 A23.out).mono ?_)); (case ha_ => first | rfl | (rw [List.length_take, Nat.min_eq_left (by have q_ : x26_2 ≤ (l0_0.length : Int) := of_decide_eq_true (by assumption); omega)]) | (rw [List.length_take, Nat.min_eq_left (by omega)])); (case side1 => exact cB_ HR253 HB); (case side2 => exact HC253.out); rintro e w' ⟨rfl, ⟨nd, rfl⟩⟩; (try exact dR_)) | (go_at_call 48; (with_reducible refine (impl_Table_cost.calls _ _ l0_0 x26_2 t255 _ ?side1 ?side2 A27.out).mono ?_); (case side1 => exact cD_ HR0_0 HB); (case side2 => exact HC0_0.out); rintro e w30 ⟨rfl, hb⟩; replace BK248 := kO_ BK248 hb; replace HB := bE_ HB hb; (try clear hb)))
  repeat (go_quiet (first | (go_at_call 46; (refine' calls_args ?ha_ ((slices_Contains_int_int.calls k2 _ _ (l0_0.take (x26_2 : Int).toNat) (rd l0_0 x26_2) false _ ?side1 ?side2 A23.out).mono ?_)); (case ha_ => first | rfl | (rw [List.length_take, Nat.min_eq_left (by have q_ : x26_2 ≤ (l0_0.length : Int) := of_decide_eq_true (by assumption); omega)]) | (rw [List.length_take, Nat.min_eq_left (by omega)])); (case side1 => exact cB_ HR253 HB); (case side2 => exact HC253.out); rintro e w' ⟨rfl, ⟨nd, rfl⟩⟩; (try exact dR_)) | (go_at_call 48; (with_reducible refine (impl_Table_cost.calls _ _ l0_0 x26_2 t255 _ ?side1 ?side2 A27.out).mono ?_); (case side1 => exact cD_ HR0_0 HB); (case side2 => exact HC0_0.out); rintro e w30 ⟨rfl, hb⟩; replace BK248 := kO_ BK248 hb; replace HB := bE_ HB hb; (try clear hb))); try go_wp2_with (first | (go_at_call 46; (refine' calls_args ?ha_ ((slices_Contains_int_int.calls k2 _ _ (l0_0.take (x26_2 : Int).toNat) (rd l0_0 x26_2) false _ ?side1 ?side2 A23.out).mono ?_)); (case ha_ => first | rfl | (rw [List.length_take, Nat.min_eq_left (by have q_ : x26_2 ≤ (l0_0.length : Int) := of_decide_eq_true (by assumption); omega)]) | (rw [List.length_take, Nat.min_eq_left (by omega)])); (case side1 => exact cB_ HR253 HB); (case side2 => exact HC253.out); rintro e w' ⟨rfl, ⟨nd, rfl⟩⟩; (try exact dR_)) | (go_at_call 48; (with_reducible refine (impl_Table_cost.calls _ _ l0_0 x26_2 t255 _ ?side1 ?side2 A27.out).mono ?_); (case side1 => exact cD_ HR0_0 HB); (case side2 => exact HC0_0.out); rintro e w30 ⟨rfl, hb⟩; replace BK248 := kO_ BK248 hb; replace HB := bE_ HB hb; (try clear hb))))
  go_loopg [42] k2 (fun kq v42 w' => ∃ (x42_3 : Int), v42 = .int .i64 x42_3 ∧ Aside0 (impl_isTable.l1 kq (rd l0_0 x26_2) l0_0 (l0_0.length : Int) x26_2 t255 x42_3 l0_0 = some r) ∧ Aside0 (kq ≤ k2) ∧ Aside0 (w'.heap[gb248]? = some (.cells #[(.slice (some ad252) l0_0.length c0_0)] 26 (0, 0))) ∧ Aside0 (Below w.heap.size w w'))
  case atStart => exact ⟨(0), sR_, H', ⟨Nat.le_refl _⟩, ⟨kk_ BK248⟩, ⟨bb_ HB⟩⟩
  case round =>
  clear H'
  try clear c17b0
  try clear c18b0
  try clear c19b0
  try clear c20b0
  try clear c21b0
  try clear c22b0
  try clear c22b1
  try clear hcz16_0
  try clear hcz28_0
  try clear hfz16_0
  try clear hfz28_0
  try clear hx252_0
  try clear p252
  try clear q252
  obtain ⟨x42_3, rfl, HA, HK3, BK248, HB⟩ := hrel
  cases gk with
  | zero => exact absurd HA.out (by simp [impl_isTable.l1])
  | succ k3 =>
  have H := HA.out
  clear HA
  simp only [impl_isTable.l1] at H
  replace H := id_ H; rcases H with ⟨c31b0, H⟩ | ⟨c31b0, H⟩
  ·replace H := jn_ H; obtain ⟨c32, H⟩ := H
   have c32b0 : ((l0_0.length : Int) == 0) = false := beq_eq_false_iff_ne.mpr c32
   have c32b1 : ((l0_0.length : Int) != 0) = true := bne_iff_ne.mpr c32
   have c32b2 : ¬ (l0_0 = []) := fun h_ => c32 (by rw [h_]; rfl)
   obtain ⟨ji33, hji33⟩ : ∃ j_ : Int, (Int.tmod (wrap64 ((rd l0_0 x26_2) + x42_3)) (l0_0.length : Int)) = j_ := ⟨_, rfl⟩
   replace H : (if 0 ≤ (ji33) then (if (ji33) < (l0_0.length : Int) then (if (rd l0_0 (ji33)) < 0 then (some false) else (impl_isTable.l1 k3 (rd l0_0 x26_2) l0_0 (l0_0.length : Int) x26_2 t255 (wrap64 (x42_3 + 1)) l0_0)) else (none)) else (none)) = some r := by first | (rw [hji33] at H; exact H) | (simp only [hji33] at H ⊢; exact H)
   replace H := jd_ H; obtain ⟨c34b0, H⟩ := H
   replace H := jd_ H; obtain ⟨c35b0, H⟩ := H
   replace H := id_ H; rcases H with ⟨c36b0, H⟩ | ⟨c36b0, H⟩
   ·obtain rfl := Option.some.inj H
    obtain ⟨hcz37_0, hfz37_0⟩ := c10_ BK248
    have p256 : 0 ≤ ((ji33) : Int) := of_decide_eq_true (by assumption)
    have q256 : (ji33) < (l0_0.length : Int) := of_decide_eq_true (by assumption)
    obtain ⟨ad256, e256, hx256_0⟩ := Kd.at_int HR0_0.out (ji33) p256 q256
    obtain rfl : ad252 = ad256 := (by injection e256)
    replace hx256_0 := (HB.out.cell (World.block_lt_of_cell? w _ hx256_0)).trans hx256_0
    replace p256 := eq_true p256
    replace q256 := eq_true q256
    go_wp2
    repeat (go_quiet (fail); try go_wp2)
    go_ret
    exact ⟨by first | rfl | (simp [errW_none, errW_some] <;> rfl) | (simp only [← hji33]; first | rfl | (simp [errW_none, errW_some] <;> rfl)) | (simp [*, errW_none, errW_some] <;> rfl), bb_ HB⟩
   have H' := aS_ H
   clear H
   obtain ⟨hcz38_0, hfz38_0⟩ := c10_ BK248
   have p256 : 0 ≤ ((ji33) : Int) := of_decide_eq_true (by assumption)
   have q256 : (ji33) < (l0_0.length : Int) := of_decide_eq_true (by assumption)
   obtain ⟨ad256, e256, hx256_0⟩ := Kd.at_int HR0_0.out (ji33) p256 q256
   obtain rfl : ad252 = ad256 := (by injection e256)
   replace hx256_0 := (HB.out.cell (World.block_lt_of_cell? w _ hx256_0)).trans hx256_0
   replace p256 := eq_true p256
   replace q256 := eq_true q256
   go_wp2
   repeat (go_quiet (fail); try go_wp2)
   go_roundg k3
   case measure => have := HJ1.out; have := HK2.out; have := HK3.out; omega
   case rel => exact ⟨(wrap64 (x42_3 + 1)), sR_, H', ⟨by have := HJ1.out; have := HK2.out; have := HK3.out; omega⟩, ⟨kk_ BK248⟩, ⟨bb_ HB⟩⟩
  have H' := aS_ H
  clear H
  go_wp2
  repeat (go_quiet (fail); try go_wp2)
  go_roundg k3
  case measure => have := HJ1.out; have := HK2.out; have := HK3.out; omega
  case rel => exact ⟨(wrap64 (x26_2 + 1)), sR_, H', ⟨by have := HJ1.out; have := HK2.out; have := HK3.out; omega⟩, ⟨kk_ BK248⟩, ⟨bb_ HB⟩⟩
 obtain rfl := Option.some.inj H
 go_wp2
 repeat (go_quiet (fail); try go_wp2)
 go_ret
 exact ⟨eR_, bb_ HB⟩
end Go.Proofs.YteakjjimkagmkaaGreatDoor.G
namespace Go.Proofs.YteakjjimkagmkaaGreatDoor.G
open Go.RowKit Go.Proofs.YteakjjimkagmkaaGreatDoorW.PrintWords Go.Proofs.YteakjjimkagmkaaGreatDoorW.PrintLast Go.Proofs.YteakjjimkagmkaaGreatDoorW.PrintMore
theorem gv_info3 : (Tryz.prog.info? 3).map (fun i => (i.zero, i.size, i.bytes)) = some (some (.int .i64 0), 1, 8) := by kernel_rfl
def slices_Clone_int_int.f (l0 : List Int) : Option (List Int) := if l0.length ≤ 17592186044415 then some l0 else none
theorem R_of_nums {e : Nat} {w : World} {base : Nat} {ok : Nat → Prop} {v : Value} {l : List Int} {n : Nat} (hn : n = l.length) (ho : w.ownsRow base e 1 v n (nums .i64 l)) (hok : ∀ k, v.ownBlock = some k → ok k) : Kd.R (Kd.int .i64) e w base ok v l := by
  subst hn
  exact Kd.R_of_own (enc := Value.int .i64) (h1 := fun _ => rfl) ho hok
end Go.Proofs.YteakjjimkagmkaaGreatDoor.G
namespace Go.Proofs.YteakjjimkagmkaaGreatDoor.G
open Go Go.Maps Go.RowKit
/-- Block b is a map of at most n entries in which the numbers of S are told true. -/
def MapIs (P : Program) (K E : TypeId) (W : World) (b n : Nat) (S : List Int) : Prop :=
  ∃ D : DataW Unit, W.ownsMap P K (plainElem P E) b n D ∧ ∀ key : Int, D.atKey (.int .i64 key) (.lit (.bool false)) = .lit (.bool (decide (key ∈ S)))
end Go.Proofs.YteakjjimkagmkaaGreatDoor.G
namespace Go.Proofs.YteakjjimkagmkaaGreatDoor.G
open Go Go.Maps Go.RowKit
section
variable {P : Program} {T K E : TypeId} (hT : P.underlying T = some (.map K E)) (hK : P.underlying K = some (.int .i64)) (hE : P.underlying E = some .bool)
theorem MapIs.made (W : World) : MapIs P K E (W.alloc (.map #[] 0)) W.heap.size 0 [] :=
  ⟨.map [], World.ownsMap_made W P K _, fun key => by simp [DataW.atKey]⟩
theorem MapIs.lt {W : World} {b n : Nat} {S : List Int} (h : MapIs P K E W b n S) : b < W.heap.size := by
  obtain ⟨D, h1, _⟩ := h
  exact h1.lt
theorem MapIs.kept {W W' : World} {row : Option Nat} {b n : Nat} {S : List Int} (h : MapIs P K E W b n S) (hg : W.grownBy W' row) (hne : some b ≠ row) : MapIs P K E W' b n S := by
  obtain ⟨D, h1, h2⟩ := h
  exact ⟨D, h1.kept hg hne, h2⟩
theorem MapIs.below {W W' : World} {B b n : Nat} {S : List Int} (h : MapIs P K E W b n S) (hb : b < B) (hB : Below B W W') : MapIs P K E W' b n S := by
  obtain ⟨D, ⟨es, clock, h0, F, hs, hD⟩, h2⟩ := h
  exact ⟨D, ⟨es, clock, (hB.block b hb).trans h0, F, hs, hD⟩, h2⟩
include hT hK hE in
theorem MapIs.look {W : World} {b n : Nat} {S : List Int} (h : MapIs P K E W b n S) (hz : (zeroValue E).run P W = .ok (.bool false) W) {key : Int} (hk : (Lit.int .i64 key).wf = true) :
    (Instr.lookup T (.map (some b)) (.int .i64 key) false).run P W = .ok (.bool (decide (key ∈ S))) W := by
  obtain ⟨D, hown, hat⟩ := h
  obtain ⟨v, ps, hrun, hv⟩ := hown.lookup (int_keyed hK) hT hz (plainElem_bool hE false) (keyOf_int_mk hK hk)
  rw [hat key] at hv
  have e : v = .bool (decide (key ∈ S)) := by
    unfold plainElem at hv
    rw [hE] at hv
    cases v <;> simp at hv
    rw [hv.1]
  rw [hrun, e]
include hT hK hE in
theorem MapIs.put {W : World} {b n : Nat} {S : List Int} (h : MapIs P K E W b n S) (hn : n < maxLen) {key : Int} (hk : (Lit.int .i64 key).wf = true) :
    ∃ W', (Instr.mapUpdate T (.map (some b)) (.int .i64 key) (.bool true)).run P W = .ok () W' ∧ MapIs P K E W' b (n + 1) (S ++ [key]) ∧ W.grownBy W' (some b) := by
  obtain ⟨D, hown, hat⟩ := h
  obtain ⟨W', hrun, hown', hg⟩ := hown.update (int_keyed hK) hT hn (keyOf_int_mk hK hk) (plainElem_bool hE true)
  refine ⟨W', hrun, ⟨_, hown', fun key' => ?_⟩, hg⟩
  by_cases c : key' = key
  · subst c
    rw [atKey_put_same hown.isMap (by first | exact trivial | decide | simp [WideAt.IsKeyLit])]
    simp
  · rw [atKey_put_other (by simpa using c), hat key']
    simp [c]
include hT hK hE in
theorem MapIs.unput {W : World} {b n : Nat} {S : List Int} (h : MapIs P K E W b n S) (hn : n < maxLen) {key : Int} (hk : (Lit.int .i64 key).wf = true) :
    ∃ W', (Instr.mapUpdate T (.map (some b)) (.int .i64 key) (.bool false)).run P W = .ok () W' ∧ MapIs P K E W' b (n + 1) (S.filter fun x => !decide (x = key)) ∧ W.grownBy W' (some b) := by
  obtain ⟨D, hown, hat⟩ := h
  obtain ⟨W', hrun, hown', hg⟩ := hown.update (int_keyed hK) hT hn (keyOf_int_mk hK hk) (plainElem_bool hE false)
  refine ⟨W', hrun, ⟨_, hown', fun key' => ?_⟩, hg⟩
  by_cases c : key' = key
  · subst c
    rw [atKey_put_same hown.isMap (by first | exact trivial | decide | simp [WideAt.IsKeyLit])]
    simp
  · rw [atKey_put_other (by simpa using c), hat key']
    simp [c]
end
end Go.Proofs.YteakjjimkagmkaaGreatDoor.G
namespace Go.Proofs.YteakjjimkagmkaaGreatDoor.G
open Go Go.Maps Go.RowKit
theorem MapIs.congr {P : Program} {K E : TypeId} {W : World} {b n : Nat} {S S' : List Int} (h : MapIs P K E W b n S) (hs : ∀ x, x ∈ S ↔ x ∈ S') : MapIs P K E W b n S' := by
  obtain ⟨D, h1, h2⟩ := h
  exact ⟨D, h1, fun key => by rw [h2 key]; congr 3; exact propext (hs key)⟩
end Go.Proofs.YteakjjimkagmkaaGreatDoor.G
namespace Go.Proofs.YteakjjimkagmkaaGreatDoor.Q
open Go.Proofs Go.RowKit Go.Shelf Go.Proofs.YteakjjimkagmkaaGreatDoorW.PrintWords Go.Proofs.YteakjjimkagmkaaGreatDoorW.PrintLast Go.Proofs.YteakjjimkagmkaaGreatDoorW.PrintMore
attribute [local go_sem] Oper.semAt_some
theorem take_snocD (zs : List Int) {k : Nat} (h : k < zs.length) : zs.take k ++ [zs.getD k 0] = zs.take (k + 1) := by
  rw [List.take_add_one, List.getElem?_eq_getElem h, List.getD_eq_getElem?_getD, List.getElem?_eq_getElem h]; rfl
/-- The slice value holds the numbers, in a block below n₀. -/
def Ints (n₀ : Nat) (W : World) (A : Option Addr) (zs : List Int) : Prop :=
  ∀ j, j < zs.length → ∃ ad, A = some ad ∧ (ad.add j).block < n₀ ∧ W.cell? (ad.add j) = some (.int .i64 (zs.getD j 0))
theorem Ints.below {n₀ : Nat} {A B : World} (h : Below n₀ A B) {a : Option Addr} {zs : List Int} (hi : Ints n₀ A a zs) : Ints n₀ B a zs := fun j hj => by
  obtain ⟨ad, e, hb, hc⟩ := hi j hj
  exact ⟨ad, e, hb, (h.cell (p := ad.add j) hb).trans hc⟩
set_option maxRecDepth 100000 in
set_option maxHeartbeats 2000000 in
/-- The closure that slices.Values hands back: for every loop body that keeps what lay below n₀. -/
theorem values1_in (F : Fence) (n : Nat) (h7 : F.fn 108) (hro : F.round = none) (hn : 1 ≤ n) (l Bs n₀ cap : Nat) (A : Option Addr) (zs : List Int) (hreach : zs.length * 8 ≤ 140737488351232) (J Jx : List Int → World → Prop)
    (hY : ∀ pre x W, J pre W → pre.length < zs.length → YieldAt F (n - 1) Tryz.prog l #[.int .i64 x] W fun e W' =>
      (e = .returned (.bool true) ∧ J (pre ++ [x]) W' ∧ Below n₀ W W') ∨ (e = .returned (.bool false) ∧ Jx (pre ++ [x]) W'))
    (W : World) (hBs : W.cell? ⟨Bs, 0, none⟩ = some (.slice A zs.length cap)) (hc : Ints n₀ W A zs) (h0 : J [] W) :
    CallsIn F n Tryz.prog 108 #[.func (.yield l) #[] #[], .pointer (some ⟨Bs, 0, none⟩)] W fun e W' => (∃ v, e = .returned v) ∧
      ((∃ ys, ys = zs ∧ J ys W') ∨ (∃ pre, pre <+: zs ∧ Jx pre W')) := by
  refine callsIn_of_wp Tryz.func108 rfl h7 ?_ hro
  simp only [Tryz.ntmps108, List.size_toArray, List.length_cons, List.length_nil, Nat.reduceAdd, Nat.reduceSub, Array.replicate_succ, Array.replicate_zero, List.push_toArray, List.append_toArray, List.nil_append, List.cons_append]
  gi_wp2
  gi_loopw [7] (fun i wr => ∃ k : Nat, k ≤ zs.length ∧ i = .int .i64 k ∧ J (zs.take k) wr ∧ Below n₀ W wr)
    (fun i _ => zs.length - (intOf i).toNat)
  case atStart => exact ⟨0, Nat.zero_le _, rfl, h0, Below.refl _ _⟩
  case round =>
    obtain ⟨k, hk, rfl, hJs, hnx⟩ := hrel
    by_cases hlt : k < zs.length
    · obtain ⟨ad, rfl, hb, hck⟩ := hc k hlt
      obtain ⟨x, hx⟩ : ∃ x, x = zs.getD k 0 := ⟨_, rfl⟩
      rw [← hx] at hck
      have hsn : Aside0 (zs.take k ++ [x] = zs.take (k + 1)) := ⟨by rw [hx]; exact take_snocD zs hlt⟩
      have hcx : wr.cell? (ad.add k) = some (.int .i64 x) := (hnx.cell (p := ad.add k) hb).trans hck
      obtain ⟨fn, tmps, assign, body, hy, hR⟩ := hY _ x wr hJs (by rw [List.length_take]; omega)
      clear hck hx
      gi_wp2
      refine hR.mono ?_
      rintro e W3 (⟨rfl, hJ3, hk3⟩ | ⟨rfl, hJx3⟩)
      · gi_wp2
        go_roundw
        case rel => exact ⟨k + 1, by omega, by simp, by rw [← hsn.out]; exact hJ3, hnx.trans hk3⟩
        case measure => simp [intOf]; omega
      · gi_wp2
        refine bodyPost_ret (results_none rfl _ _ _) rfl ?_
        exact ⟨⟨_, rfl⟩, .inr ⟨_, by rw [hsn.out]; exact List.take_prefix _ _, hJx3⟩⟩
    · obtain rfl : k = zs.length := by omega
      gi_wp2
      go_end0
      exact ⟨⟨_, rfl⟩, .inl ⟨_, by rw [List.take_length], hJs⟩⟩
set_option maxHeartbeats 1000000 in
theorem values_in (F : Fence) (n : Nat) (h5 : F.fn 93) (hro : F.round = none) (a : Option Addr) (len cap : Nat) (w : World) :
    CallsIn F n Tryz.prog 93 #[.slice a len cap] w fun e w' => e = .returned (.func (.func 108) #[] #[.pointer (some ⟨w.heap.size, 0, none⟩)]) ∧ w' = w.alloc (.cells #[.slice a len cap] 24) := by
  refine callsIn_of_wp Tryz.func93 rfl h5 ?_ hro
  simp only [Tryz.ntmps93, List.size_toArray, List.length_cons, List.length_nil, Nat.reduceAdd, Nat.reduceSub, Array.replicate_succ, Array.replicate_zero, List.push_toArray, List.append_toArray, List.nil_append, List.cons_append]
  gi_wp2
  go_ret
  exact ⟨rfl, rfl⟩
theorem values_stops (F : Fence) (n : Nat) (h7 : F.fn 108) (hro : F.round = none) (hn : 1 ≤ n) (Bs n₀ cap : Nat) (A : Option Addr) (zs : List Int) (hreach : zs.length * 8 ≤ 140737488351232) (w : World) (hBs : Bs < w.heap.size) (hn₀ : n₀ ≤ w.heap.size)
    (hc : w.cell? ⟨Bs, 0, none⟩ = some (.slice A zs.length cap)) (hI : Ints n₀ w A zs) :
    SeqStopsK F n Tryz.prog 108 #[.pointer (some ⟨Bs, 0, none⟩)] (fun x : Int => #[Value.int .i64 x]) (Below n₀) (fun ys => ys = zs) (fun pre => pre <+: zs) zs.length w := fun l J Jx W hW _ _ hY h0 =>
  values1_in F n h7 hro hn l Bs n₀ cap A zs hreach J Jx hY W ((hW.cell (p := ⟨Bs, 0, none⟩) hBs).trans hc) (hI.below (hW.mono hn₀)) h0
theorem infoI : (Tryz.prog.info? 3).map (fun i => (i.zero, i.size, i.bytes)) = some (some (.int .i64 0), 1, 8) := by kernel_rfl
set_option maxRecDepth 100000 in
set_option maxHeartbeats 2000000 in
/-- slices.AppendSeq onto nil, over what slices.Values handed back. -/
theorem appendSeq_in (F : Fence) (n : Nat) (h3 : F.fn 123) (h5 : F.fn 108) (hro : F.round = none) (hn : 3 ≤ n) (Bs cap : Nat) (A : Option Addr) (zs : List Int) (hreach : zs.length * 8 ≤ 140737488351232) (w : World) (hBs : Bs < w.heap.size)
    (hcs : w.cell? ⟨Bs, 0, none⟩ = some (.slice A zs.length cap)) (hI : Ints w.heap.size w A zs) :
    CallsIn F n Tryz.prog 123 #[.slice none 0 0, .func (.func 108) #[] #[.pointer (some ⟨Bs, 0, none⟩)]] w fun e W' => ∃ v, e = .returned v ∧ W'.ownsRow w.heap.size 3 1 v zs.length (zs.map (Value.int .i64)) ∧ (v = .slice none 0 0 ↔ zs = []) ∧ Below w.heap.size w W' := by
  have h1 : 1 ≤ n := by omega
  have hmx : zs.length ≤ maxLen := by unfold maxLen; omega
  obtain ⟨i0, hi, hz0, hz1, hz2⟩ := info_parts infoI
  refine callsIn_of_wp_marks Tryz.func123 rfl h3 ?_ hro
  simp only [Tryz.ntmps123, List.size_toArray, List.length_cons, List.length_nil, Nat.reduceAdd, Nat.reduceSub, Array.replicate_succ, Array.replicate_zero, List.push_toArray, List.append_toArray, List.nil_append, List.cons_append]
  gi_wp2
  have bO := Boxed.new w 24 (.slice none 0 0)
  have hB0 : Below w.heap.size w (w.alloc (.cells #[.slice none 0 0] 24)) := (Below.refl _ w).alloc (Nat.le_refl _) _
  refine wpIn_rangeFunc_ownG hro h1 (gf := 108) (lb := #[.pointer (some ⟨Bs, 0, none⟩)]) rfl h5 (enters_of Tryz.func108 (by kernel_rfl) rfl)
    (values_stops F (n - 1) h5 hro (by omega) Bs w.heap.size cap A zs hreach _ (by simp; omega) (by simp) ((hB0.cell (p := ⟨Bs, 0, none⟩) hBs).trans hcs) (hI.below hB0)) belowK_t (belowK_b (by simp)) (Below.refl _ _) (fun _ => rfl)
    (fun pre W => (∃ v, Boxed W w.heap.size 24 v ∧ W.ownsRow w.heap.size 3 1 v pre.length (pre.map (Value.int .i64)) ∧ (v = .slice none 0 0 ↔ pre = [])) ∧ Below w.heap.size w W)
    (fun _ _ _ => False)
    (OwnFrom.and (Own.from (holdsRow_own w.heap.size w.heap.size 24 3 1 (fun pre => pre.length) (fun pre => pre.map (Value.int .i64)) (fun pre v => v = .slice none 0 0 ↔ pre = [])) _) (ownFrom_below (Nat.le_refl _) (by simp)))
    (fun _ _ _ _ _ hs _ _ => hs)
    ⟨⟨_, bO, World.ownsRow_nil _ _ _ _, by simp⟩, hB0⟩
    (fun x => { tmps := #[.slice none 0 0, .func (.func 108) #[] #[.pointer (some ⟨Bs, 0, none⟩)], .pointer (some ⟨w.heap.size, 0, none⟩), undef, .slice none 0 0, .int .i64 x, .func (.func 108) #[] #[.pointer (some ⟨Bs, 0, none⟩)], .int .i64 x, undef, undef, undef, undef, undef], defers := [] }) ?assign ?body ?done ?stop
  case assign =>
    intro l x W K hK
    gi_wp2
    exact hK
  case body =>
    rintro l pre x W ⟨⟨v, hv, hrow, hnil⟩, hB⟩ hlt
    have hc := hv.cell
    gi_wp2_with (gi_at_builtin; refine wpListIn_append_own _ rfl _ _ 24 rfl w.heap.size 3 i0 (.int .i64 0) 1 8 Tryz.underlying24 hi hz0 hz1 hz2 rfl (by decide) _ _ _ rfl (hrow.alloc _) ⟨W.heap.size, 0, none⟩ 1 1 [.int .i64 x] rfl rfl (cell_one_new _ _ _) (by simp [Value.oneCell']) (by omega) (by omega) (by have := hB.size; simp; omega) ?_; intro v' w1 hown' hgrow _; obtain ⟨g', cap', rfl⟩ := ownsRow_succ hown'; obtain ⟨hv1, hv2, hr2, hk2, hb2⟩ := hv.appended (by decide) hrow hB.size (Nat.le_refl _) hown' hgrow; have hc1 := hv1.cell; have hf1 := hv1.frozen)
    exact ⟨hk2.from _, hb2, ⟨_, hv2, by simpa using hr2, by simp⟩, hB.trans hb2⟩
  case done =>
    rintro D ys W hD rfl ⟨⟨v, hv, hrow, hnil⟩, hB⟩ hK
    have hc := hv.cell
    gi_wp2
    refine ⟨by simp, .inl ⟨_, _, rfl, run_takeDeferred hK, ?_⟩⟩
    exact ⟨_, results_tmp rfl _ _ _, v, rfl, ownsRow_putObj hrow _ hK rfl, hnil, hB.trans (belowK_b (w := w) (Nat.le_refl _) W D _ _ (by simp at hD; omega) hK rfl rfl)⟩
  case stop =>
    rintro D c pre W _ _ h _
    exact h.elim
set_option maxHeartbeats 1000000 in
theorem collect_in (F : Fence) (n : Nat) (h8 : F.fn 106) (h3 : F.fn 123) (h5 : F.fn 108) (hro : F.round = none) (hn : 4 ≤ n) (Bs cap : Nat) (A : Option Addr) (zs : List Int) (hreach : zs.length * 8 ≤ 140737488351232) (w : World) (hBs : Bs < w.heap.size)
    (hcs : w.cell? ⟨Bs, 0, none⟩ = some (.slice A zs.length cap)) (hI : Ints w.heap.size w A zs) :
    CallsIn F n Tryz.prog 106 #[.func (.func 108) #[] #[.pointer (some ⟨Bs, 0, none⟩)]] w fun e W' => ∃ v, e = .returned v ∧ W'.ownsRow w.heap.size 3 1 v zs.length (zs.map (Value.int .i64)) ∧ (v = .slice none 0 0 ↔ zs = []) ∧ Below w.heap.size w W' := by
  have h1 : 1 ≤ n := by omega
  refine callsIn_of_wp Tryz.func106 rfl h8 ?_ hro
  simp only [Tryz.ntmps106, List.size_toArray, List.length_cons, List.length_nil, Nat.reduceAdd, Nat.reduceSub, Array.replicate_succ, Array.replicate_zero, List.push_toArray, List.append_toArray, List.nil_append, List.cons_append]
  gi_wp2_with (gi_at_call 123; refine (appendSeq_in F (n - 1) h3 h5 hro (by omega) Bs cap A zs hreach _ hBs hcs hI).mono ?_; rintro e w' ⟨v, rfl, hrow, hnil, hb⟩)
  go_ret
  exact ⟨v, rfl, hrow, hnil, hb⟩
end Go.Proofs.YteakjjimkagmkaaGreatDoor.Q
namespace Go.Proofs
open Go.Shelf
def Tryz.laysNm220_ren : Go.Shelf.Ren := ⟨fun | 20 => 75 | n => n, fun | 22 => 24 | 3 => 3 | 4 => 4 | 0 => 0 | n => n, fun | n => n⟩
theorem Tryz.laysNm220 : Go.Proofs.Lays2.n20 Tryz.prog Tryz.laysNm220_ren := {
  mixed := by kernel_rfl
  f20 := Tryz.func75.trans (congrArg some (by kernel_rfl))
  t0 := Tryz.underlying0
  a0 := Tryz.isAgg0
  z0 := Tryz.sizeOf0
  v0 := Tryz.zeroValue0
  t3 := Tryz.underlying3
  a3 := Tryz.isAgg3
  z3 := Tryz.sizeOf3
  v3 := Tryz.zeroValue3
  t4 := Tryz.underlying4
  a4 := Tryz.isAgg4
  z4 := Tryz.sizeOf4
  v4 := Tryz.zeroValue4
  t22 := Tryz.underlying24
  a22 := Tryz.isAgg24
  z22 := Tryz.sizeOf24
  v22 := Tryz.zeroValue24
  i3 := by kernel_rfl }
open Go.RowKit Go.Lib Go.Sort in
theorem Tryz.slices_Compact_int (blk off cap : Nat) (zs : List Int) (w : World) (hH : Holds (Value.int .i64) w blk off zs.toArray) (hsz : zs.length ≤ 9223372036854775807) (hcap : zs.length ≤ cap) :
    Calls Tryz.prog 75 #[.slice (some ⟨blk, off, none⟩) zs.length cap] w fun e w' => e = .returned (.slice (some ⟨blk, off, none⟩) (Lib.compact zs).length cap) ∧ ∃ q, w' = putRow (Value.int .i64) (Sort.ahead w q) blk off (Lib.compact zs ++ List.replicate (zs.length - (Lib.compact zs).length) 0).toArray := Any.slices_Compact_int Tryz.laysNm220 blk off cap zs w hH hsz hcap
open Go.RowKit Go.Lib Go.Sort in
theorem Tryz.slices_Compact_int_empty (a : Option Addr) (cap : Nat) (w : World) :
    Calls Tryz.prog 75 #[.slice a 0 cap] w fun e w' => e = .returned (.slice a 0 cap) ∧ w' = w := Any.slices_Compact_int_empty Tryz.laysNm220 a cap w
def Tryz.laysSlH10_f71_ren : Go.Shelf.Ren := ⟨fun | 10 => 71 | 6 => 63 | n => n, fun | 22 => 24 | 23 => 3 | 25 => 59 | 3 => 3 | 4 => 4 | 0 => 0 | n => n, fun | n => n⟩
theorem Tryz.laysSlH10_f71 : Go.Proofs.SlLaysH.n10 Tryz.prog Tryz.laysSlH10_f71_ren := {
  mixed := by kernel_rfl
  f6 := ⟨Tryz.f63.name, by decide, Tryz.func63.trans (congrArg some (by kernel_rfl))⟩
  f10 := ⟨Tryz.f71.name, by decide, Tryz.func71.trans (congrArg some (by kernel_rfl))⟩
  t0 := Tryz.underlying0
  a0 := Tryz.isAgg0
  z0 := Tryz.sizeOf0
  v0 := Tryz.zeroValue0
  t3 := Tryz.underlying3
  a3 := Tryz.isAgg3
  z3 := Tryz.sizeOf3
  v3 := Tryz.zeroValue3
  t4 := Tryz.underlying4
  a4 := Tryz.isAgg4
  z4 := Tryz.sizeOf4
  v4 := Tryz.zeroValue4
  t22 := Tryz.underlying24
  a22 := Tryz.isAgg24
  z22 := Tryz.sizeOf24
  v22 := Tryz.zeroValue24
  a23 := Tryz.isAgg3
  z23 := Tryz.sizeOf3
  t25 := Tryz.underlying59
  a25 := Tryz.isAgg59
  z25 := Tryz.sizeOf59
  v25 := Tryz.zeroValue59 }
end Go.Proofs
