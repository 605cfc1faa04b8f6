/- The law FnExactKeysOf: part 2 of the printed functions and the facts on them that its row leans on (merged by this session's slim.py). -/
import Derived.Test.YteeimoankbgcaaaZFnExactKeysOf1
namespace Go.Proofs.Yteeimoankbgcaaa.Q
open Go.Proofs Go.RowKit Go.Shelf Go.Proofs.YteeimoankbgcaaaW.PrintWords Go.Proofs.YteeimoankbgcaaaW.PrintLast Go.Proofs.YteeimoankbgcaaaW.PrintMore
attribute [local go_sem] Oper.semAt_some
set_option linter.unusedVariables false
set_option linter.unusedSimpArgs false
set_option maxHeartbeats 1000000 in
theorem collect_in (F : Fence) (n : Nat) (h8 : F.fn 95) (h3 : F.fn 100) (h5 : F.fn 97) (hro : F.round = none) (hn : 4 ≤ n) (Bs cap : Nat) (A : Option Addr) (zs : List Int) (hreach : zs.length * 8 ≤ 140737488351232) (w : World) (hBs : Bs < w.heap.size)
    (hcs : w.cell? ⟨Bs, 0, none⟩ = some (.slice A zs.length cap)) (hI : Ints w.heap.size w A zs) :
    CallsIn F n Try.prog 95 #[.func (.func 97) #[] #[.pointer (some ⟨Bs, 0, none⟩)]] w fun e W' => ∃ v, e = .returned v ∧ W'.ownsRow w.heap.size 3 1 v zs.length (zs.map (Value.int .i64)) ∧ (v = .slice none 0 0 ↔ zs = []) ∧ Below w.heap.size w W' := by
  have h1 : 1 ≤ n := by omega
  refine callsIn_of_wp Try.func95 rfl h8 ?_ hro
  simp only [Try.ntmps95, List.size_toArray, List.length_cons, List.length_nil, Nat.reduceAdd, Nat.reduceSub, Array.replicate_succ, Array.replicate_zero, List.push_toArray, List.append_toArray, List.nil_append, List.cons_append]
  gi_wp2_with (gi_at_call 100; refine (appendSeq_in F (n - 1) h3 h5 hro (by omega) Bs cap A zs hreach _ hBs hcs hI).mono ?_; rintro e w' ⟨v, rfl, hrow, hnil, hb⟩)
  go_ret
  exact ⟨v, rfl, hrow, hnil, hb⟩
end Go.Proofs.Yteeimoankbgcaaa.Q
namespace Go.Proofs
open Go.Shelf
def Try.laysNm220_ren : Go.Shelf.Ren := ⟨fun | 20 => 81 | n => n, fun | 22 => 22 | 3 => 3 | 4 => 4 | 0 => 0 | n => n, fun | n => n⟩
theorem Try.laysNm220 : Go.Proofs.Lays2.n20 Try.prog Try.laysNm220_ren := {
  mixed := by kernel_rfl
  f20 := Try.func81.trans (congrArg some (by kernel_rfl))
  t0 := Try.underlying0
  a0 := Try.isAgg0
  z0 := Try.sizeOf0
  v0 := Try.zeroValue0
  t3 := Try.underlying3
  a3 := Try.isAgg3
  z3 := Try.sizeOf3
  v3 := Try.zeroValue3
  t4 := Try.underlying4
  a4 := Try.isAgg4
  z4 := Try.sizeOf4
  v4 := Try.zeroValue4
  t22 := Try.underlying22
  a22 := Try.isAgg22
  z22 := Try.sizeOf22
  v22 := Try.zeroValue22
  i3 := by kernel_rfl }
open Go.RowKit Go.Lib Go.Sort in
theorem Try.slices_Compact_int (blk off cap : Nat) (zs : List Int) (w : World) (hH : Holds (Value.int .i64) w blk off zs.toArray) (hsz : zs.length ≤ 9223372036854775807) (hcap : zs.length ≤ cap) :
    Calls Try.prog 81 #[.slice (some ⟨blk, off, none⟩) zs.length cap] w fun e w' => e = .returned (.slice (some ⟨blk, off, none⟩) (Lib.compact zs).length cap) ∧ ∃ q, w' = putRow (Value.int .i64) (Sort.ahead w q) blk off (Lib.compact zs ++ List.replicate (zs.length - (Lib.compact zs).length) 0).toArray := Any.slices_Compact_int Try.laysNm220 blk off cap zs w hH hsz hcap
open Go.RowKit Go.Lib Go.Sort in
theorem Try.slices_Compact_int_empty (a : Option Addr) (cap : Nat) (w : World) :
    Calls Try.prog 81 #[.slice a 0 cap] w fun e w' => e = .returned (.slice a 0 cap) ∧ w' = w := Any.slices_Compact_int_empty Try.laysNm220 a cap w
def Try.laysSlH10_f76_ren : Go.Shelf.Ren := ⟨fun | 10 => 76 | 6 => 85 | n => n, fun | 22 => 22 | 23 => 3 | 25 => 52 | 3 => 3 | 4 => 4 | 0 => 0 | n => n, fun | n => n⟩
theorem Try.laysSlH10_f76 : Go.Proofs.SlLaysH.n10 Try.prog Try.laysSlH10_f76_ren := {
  mixed := by kernel_rfl
  f6 := ⟨Try.f85.name, by decide, Try.func85.trans (congrArg some (by kernel_rfl))⟩
  f10 := ⟨Try.f76.name, by decide, Try.func76.trans (congrArg some (by kernel_rfl))⟩
  t0 := Try.underlying0
  a0 := Try.isAgg0
  z0 := Try.sizeOf0
  v0 := Try.zeroValue0
  t3 := Try.underlying3
  a3 := Try.isAgg3
  z3 := Try.sizeOf3
  v3 := Try.zeroValue3
  t4 := Try.underlying4
  a4 := Try.isAgg4
  z4 := Try.sizeOf4
  v4 := Try.zeroValue4
  t22 := Try.underlying22
  a22 := Try.isAgg22
  z22 := Try.sizeOf22
  v22 := Try.zeroValue22
  a23 := Try.isAgg3
  z23 := Try.sizeOf3
  t25 := Try.underlying52
  a25 := Try.isAgg52
  z25 := Try.sizeOf52
  v25 := Try.zeroValue52 }
open Go.RowKit Go.Lib Go.Sort in
theorem Try.slices_DeleteFunc {α : Type} [Inhabited α] (enc : α → Value) (hO : OneCell enc) (p : α → Bool) (g : Nat) (lb : Array Value) (eg : ∀ args w, (callFunc g args).run Try.prog w = .ok (.enter g args) w) (zr : α) (v23 : ∀ w, (zeroValue 3).run Try.prog w = .ok (enc zr) w) (blk off cap : Nat) (d : Array α) (w : World) (hp : PredAt Try.prog g lb enc p w) (hpo : PredOver Try.prog g lb enc p blk off d.size w) (hH : Holds enc w blk off d) (hsz : d.size ≤ 9223372036854775807) (hcap : d.size ≤ cap) :
    Calls Try.prog 76 #[.slice (some ⟨blk, off, none⟩) d.size cap, .func (.func g) #[] lb] w fun e w' => e = .returned (.slice (some ⟨blk, off, none⟩) (d.toList.filter fun x => !p x).length cap) ∧ ∃ q, w' = putRow enc (Sort.ahead w q) blk off ((d.toList.filter fun x => !p x) ++ List.replicate (d.size - (d.toList.filter fun x => !p x).length) zr).toArray := AnyE.slices_DeleteFunc Try.laysSlH10_f76 enc hO p g lb eg zr v23 blk off cap d w hp hpo hH hsz hcap
def Try.laysSlM5_f96_ren : Go.Shelf.Ren := ⟨fun | 5 => 96 | 8 => 102 | 7 => 101 | 19 => 112 | 20 => 113 | 10 => 103 | 11 => 104 | 12 => 105 | 13 => 106 | 14 => 107 | 15 => 108 | 16 => 109 | 17 => 110 | 18 => 111 | 30 => 114 | 31 => 115 | 32 => 116 | 33 => 117 | 34 => 118 | 35 => 119 | 40 => 120 | n => n, fun | 23 => 22 | 25 => 3 | 3 => 3 | 32 => 75 | 22 => 22 | 0 => 0 | 44 => 79 | 46 => 82 | 4 => 4 | 36 => 90 | 35 => 89 | 41 => 26 | 5 => 5 | 9 => 9 | 53 => 97 | 57 => 101 | 63 => 103 | 64 => 104 | n => n, fun | n => n⟩
theorem Try.laysSlM5_f96 : Go.Proofs.SlLaysM.n5 Try.prog Try.laysSlM5_f96_ren := {
  mixed := by kernel_rfl
  f5 := ⟨Try.f96.name, by decide, Try.func96.trans (congrArg some (by kernel_rfl))⟩
  f7 := ⟨Try.f101.name, by decide, Try.func101.trans (congrArg some (by kernel_rfl))⟩
  f8 := Try.func102.trans (congrArg some (by kernel_rfl))
  f10 := ⟨Try.f103.name, by decide, Try.func103.trans (congrArg some (by kernel_rfl))⟩
  f11 := ⟨Try.f104.name, by decide, Try.func104.trans (congrArg some (by kernel_rfl))⟩
  f12 := ⟨Try.f105.name, by decide, Try.func105.trans (congrArg some (by kernel_rfl))⟩
  f13 := ⟨Try.f106.name, by decide, Try.func106.trans (congrArg some (by kernel_rfl))⟩
  f14 := ⟨Try.f107.name, by decide, Try.func107.trans (congrArg some (by kernel_rfl))⟩
  f15 := ⟨Try.f108.name, by decide, Try.func108.trans (congrArg some (by kernel_rfl))⟩
  f16 := ⟨Try.f109.name, by decide, Try.func109.trans (congrArg some (by kernel_rfl))⟩
  f17 := ⟨Try.f110.name, by decide, Try.func110.trans (congrArg some (by kernel_rfl))⟩
  f18 := ⟨Try.f111.name, by decide, Try.func111.trans (congrArg some (by kernel_rfl))⟩
  f19 := Try.func112.trans (congrArg some (by kernel_rfl))
  f20 := Try.func113.trans (congrArg some (by kernel_rfl))
  f30 := ⟨Try.f114.name, by decide, Try.func114.trans (congrArg some (by kernel_rfl))⟩
  f31 := Try.func115.trans (congrArg some (by kernel_rfl))
  f32 := Try.func116.trans (congrArg some (by kernel_rfl))
  f33 := ⟨Try.f117.name, by decide, Try.func117.trans (congrArg some (by kernel_rfl))⟩
  f34 := ⟨Try.f118.name, by decide, Try.func118.trans (congrArg some (by kernel_rfl))⟩
  f35 := ⟨Try.f119.name, by decide, Try.func119.trans (congrArg some (by kernel_rfl))⟩
  f40 := ⟨Try.f120.name, by decide, Try.func120.trans (congrArg some (by kernel_rfl))⟩
  t0 := Try.underlying0
  a0 := Try.isAgg0
  z0 := Try.sizeOf0
  v0 := Try.zeroValue0
  t3 := Try.underlying3
  a3 := Try.isAgg3
  z3 := Try.sizeOf3
  v3 := Try.zeroValue3
  t4 := Try.underlying4
  a4 := Try.isAgg4
  z4 := Try.sizeOf4
  v4 := Try.zeroValue4
  t5 := Try.underlying5
  a5 := Try.isAgg5
  z5 := Try.sizeOf5
  v5 := Try.zeroValue5
  t9 := Try.underlying9
  a9 := Try.isAgg9
  z9 := Try.sizeOf9
  v9 := Try.zeroValue9
  t22 := Try.underlying22
  a22 := Try.isAgg22
  z22 := Try.sizeOf22
  v22 := Try.zeroValue22
  t23 := Try.underlying22
  a23 := Try.isAgg22
  z23 := Try.sizeOf22
  v23 := Try.zeroValue22
  t25 := Try.underlying3
  a25 := Try.isAgg3
  z25 := Try.sizeOf3
  v25 := Try.zeroValue3
  t32 := Try.underlying75
  a32 := Try.isAgg75
  z32 := Try.sizeOf75
  v32 := Try.zeroValue75
  t35 := Try.underlying89
  a35 := Try.isAgg89
  z35 := Try.sizeOf89
  v35 := Try.zeroValue89
  t36 := Try.underlying90
  a36 := Try.isAgg90
  z36 := Try.sizeOf90
  v36 := Try.zeroValue90
  t41 := Try.underlying26
  a41 := Try.isAgg26
  z41 := Try.sizeOf26
  v41 := Try.zeroValue26
  t44 := Try.underlying79
  a44 := Try.isAgg79
  z44 := Try.sizeOf79
  v44 := Try.zeroValue79
  t46 := Try.underlying82
  a46 := Try.isAgg82
  z46 := Try.sizeOf82
  v46 := Try.zeroValue82
  t53 := Try.underlying97
  a53 := Try.isAgg97
  z53 := Try.sizeOf97
  v53 := Try.zeroValue97
  t57 := Try.underlying101
  a57 := Try.isAgg101
  z57 := Try.sizeOf101
  v57 := Try.zeroValue101
  t63 := Try.underlying103
  a63 := Try.isAgg103
  z63 := Try.sizeOf103
  v63 := Try.zeroValue103
  t64 := Try.underlying104
  a64 := Try.isAgg104
  z64 := Try.sizeOf104
  v64 := Try.zeroValue104 }
open Go.Sort Go.RowKit in
theorem Try.slices_Sort_int (blk off cap : Nat) (zs : List Int) (w : World) (hH : Holds (Value.int .i64) w blk off zs.toArray) (hblk : blk < w.heap.size) (hsz : zs.length < 4611686018427387904) :
    Calls Try.prog 96 #[.slice (some ⟨blk, off, none⟩) zs.length cap] w fun e w' =>
      e = .returned (.tuple #[]) ∧ ∃ n os, w' = grow (putRow (Value.int .i64) (Sort.ahead w n) blk off (zs.mergeSort fun x y => decide (x ≤ y)).toArray) os := AnyM.slices_Sort_int Try.laysSlM5_f96 blk off cap zs w hH hblk hsz
open Go.RowKit Go.Sort in
theorem Try.slices_Sort_int_none (p : Option Addr) (cap : Nat) (w : World) :
    Calls Try.prog 96 #[.slice p 0 cap] w fun e w' => e = .returned (.tuple #[]) ∧ w' = w := AnyM.slices_Sort_int_none Try.laysSlM5_f96 p cap w
end Go.Proofs
namespace Go.Proofs.Yteeimoankbgcaaa.G
open Go.RowKit Go.Sort Go.Proofs.YteeimoankbgcaaaW.PrintWords Go.Proofs.YteeimoankbgcaaaW.PrintLast Go.Proofs.YteeimoankbgcaaaW.PrintMore
set_option linter.unusedVariables false
set_option linter.unusedSimpArgs false
def sortZ (l : List Int) : List Int := l.mergeSort fun x y => decide (x ≤ y)
theorem sortZ_len (l : List Int) : (sortZ l).length = l.length := List.length_mergeSort l
theorem o_R_of_own {e : Nat} {w : World} {base : Nat} {ok : Nat → Prop} {v : Value} {l : List Int} {n : Nat} (hn : n = l.length) (ho : w.ownsRow base e 1 v n (l.map (Value.int .i64))) (hok : ∀ k, v.ownBlock = some k → ok k) : Kd.R (Kd.int .i64) e w base ok v l := by
  subst hn
  exact Kd.R_of_own (enc := Value.int .i64) (h1 := fun _ => rfl) ho hok
theorem ints_of_C {A : Option Addr} {l : List Int} {w : World} (hr : Kd.C (Kd.int .i64) w A l.length l) : Q.Ints w.heap.size w A l := fun j hj => by
  obtain ⟨ad, e, hx⟩ := Kd.at_int hr (j : Int) (by omega) (by omega)
  have e2 : Go.Proofs.YteeimoankbgcaaaW.PrintWords.rd l (j : Int) = l.getD j 0 := by unfold Go.Proofs.YteeimoankbgcaaaW.PrintWords.rd; rw [Int.toNat_natCast]
  rw [Int.toNat_natCast, e2] at hx
  exact ⟨ad, e, World.block_lt_of_cell? w _ hx, hx⟩
theorem collectC (Bs cap : Nat) (A : Option Addr) (zs : List Int) (hreach : zs.length * 8 ≤ 140737488351232) (w : World) (hBs : Bs < w.heap.size)
    (hcs : w.cell? ⟨Bs, 0, none⟩ = some (.slice A zs.length cap)) (hI : Q.Ints w.heap.size w A zs) :
    Calls Try.prog 95 #[.func (.func 97) #[] #[.pointer (some ⟨Bs, 0, none⟩)]] w fun e W' => ∃ v, e = .returned v ∧ W'.ownsRow w.heap.size 3 1 v zs.length (zs.map (Value.int .i64)) ∧ (v = .slice none 0 0 ↔ zs = []) ∧ Below w.heap.size w W' :=
  callsIn_wide.1 (Q.collect_in Fence.wide 6 trivial trivial trivial rfl (by omega) Bs cap A zs hreach w hBs hcs hI)
theorem valuesC (a : Option Addr) (len cap : Nat) (w : World) :
    Calls Try.prog 93 #[.slice a len cap] w fun e w' => e = .returned (.func (.func 97) #[] #[.pointer (some ⟨w.heap.size, 0, none⟩)]) ∧ w' = w.alloc (.cells #[.slice a len cap] 22) :=
  callsIn_wide.1 (Q.values_in Fence.wide 6 trivial rfl a len cap w)
set_option maxHeartbeats 2000000 in
set_option maxRecDepth 100000 in
theorem slicesSorted (Bs cap : Nat) (A : Option Addr) (zs : List Int) (hreach : zs.length * 8 ≤ 140737488351232) (w : World) (hBs : Bs < w.heap.size)
    (hcs : w.cell? ⟨Bs, 0, none⟩ = some (.slice A zs.length cap)) (hI : Q.Ints w.heap.size w A zs) :
    Calls Try.prog 92 #[.func (.func 97) #[] #[.pointer (some ⟨Bs, 0, none⟩)]] w fun e W' => ∃ v, e = .returned v ∧ W'.ownsRow w.heap.size 3 1 v zs.length ((sortZ zs).map (Value.int .i64)) ∧ (v = .slice none 0 0 ↔ zs = []) ∧ Below w.heap.size w W' := by
  have hcol := collectC Bs cap A zs hreach w hBs hcs hI
  clear hcs hI hBs
  go_enter Try.func92, Try.ntmps92
  go_wp2_with (go_at_call 95; refine hcol.mono ?_; rintro e W ⟨v, rfl, hrow, hnil, hb⟩)
  rcases hrow.2 with ⟨rfl, hz⟩ | ⟨gb, cap', cur, rfl, hbase, hgb, r1, r2, r3, r4⟩
  · have hss : zs = [] := List.eq_nil_of_length_eq_zero hz
    subst hss
    go_wp2_with (go_at_call 96; refine (Try.slices_Sort_int_none none 0 W).mono ?_; rintro e w' ⟨rfl, rfl⟩)
    go_ret
    exact ⟨_, rfl, by simpa [sortZ] using hrow, by simp, hb⟩
  · have hH : Holds (Value.int .i64) W gb 0 zs.toArray := holds_of_block_i hgb (by simpa using r4)
    have hgl : gb < W.heap.size := (Array.getElem?_eq_some_iff.1 hgb).1
    have hsz : zs.length < 4611686018427387904 := by omega
    have cS := Try.slices_Sort_int gb 0 cap' zs W hH hgl hsz
    go_wp2_with (go_at_call 96; refine cS.mono ?_; rintro e w' ⟨rfl, nn, os, rfl⟩)
    go_ret
    exact ⟨_, rfl, ownsRow_sorted_i (sortZ_len zs) hbase hgb r1 r2 r3, hnil, hb.grown (grownBy_sorted_i _) hb.size (fun j hj => by cases hj; exact hbase)⟩
set_option maxHeartbeats 2000000 in
set_option maxRecDepth 100000 in
/-- impl.sorted: a row of the call's own. -/
theorem sorted_own (A0 : Option Addr) (c0 : Nat) (l0 : List Int) (w : World) (hr0 : Kd.C (Kd.int .i64) w A0 l0.length l0) (hreach : l0.length * 8 ≤ 140737488351232) :
    Calls Try.prog 77 #[.slice A0 l0.length c0] w fun e w' => ∃ v, e = .returned v ∧ w'.ownsRow w.heap.size 3 1 v l0.length ((sortZ l0).map (Value.int .i64)) ∧ (v = .slice none 0 0 ↔ l0 = []) ∧ Below w.heap.size w w' := by
  have hb0 : Below w.heap.size w (w.alloc (.cells #[.slice A0 l0.length c0] 22)) := (Below.refl _ w).alloc (Nat.le_refl _) _
  have hI : Q.Ints (w.alloc (.cells #[.slice A0 l0.length c0] 22)).heap.size (w.alloc (.cells #[.slice A0 l0.length c0] 22)) A0 l0 := fun j hj => by
    obtain ⟨ad, e, h1, h2⟩ := (ints_of_C hr0).below hb0 j hj
    exact ⟨ad, e, Nat.lt_of_lt_of_le h1 hb0.size, h2⟩
  have hcall := slicesSorted w.heap.size c0 A0 l0 hreach (w.alloc (.cells #[.slice A0 l0.length c0] 22)) (by simp) (Boxed.new w 22 _).cell hI
  clear hr0 hI
  go_enter Try.func77, Try.ntmps77
  go_wp2_with (first | (go_at_call 93; refine (valuesC _ _ _ _).mono ?_; rintro e w' ⟨rfl, rfl⟩) | (go_at_call 92; refine hcall.mono ?_; rintro e w' ⟨v, rfl, hrow, hnil, hb⟩))
  go_ret
  refine ⟨v, rfl, ?_, hnil, hb0.trans (hb.mono hb0.size)⟩
  obtain ⟨h1, h2⟩ := hrow
  refine ⟨h1, h2.imp id ?_⟩
  rintro ⟨g, cap, cur, e, hg, h⟩
  exact ⟨g, cap, cur, e, Nat.le_trans hb0.size hg, h⟩
def impl_sorted.f (l0 : List Int) : Option (List Int) := if l0.length ≤ 17592186043904 then some (sortZ l0) else none
theorem impl_sorted.calls (A0 : Option Addr) (c0 : Nat) (l0 : List Int) (r : List Int) (w : World) (hr0 : Kd.C (Kd.int .i64) w A0 l0.length l0) (hc0 : l0.length ≤ c0) (h : impl_sorted.f l0 = some r) :
    Calls Try.prog 77 #[.slice A0 l0.length c0] w fun e w' => ∃ v0_ : Value, e = .returned (v0_) ∧ Kd.R (Kd.int .i64) 3 w' w.heap.size (fun _ => True) v0_ r ∧ Below w.heap.size w w' := by
  unfold impl_sorted.f at h
  split at h
  case isFalse => cases h
  rename_i hl
  obtain rfl := Option.some.inj h
  refine (sorted_own A0 c0 l0 w hr0 (by omega)).mono ?_
  rintro e w' ⟨v, rfl, hrow, _, hb⟩
  exact ⟨v, rfl, o_R_of_own (sortZ_len l0).symm hrow (fun _ _ => trivial), hb⟩
theorem own_take {w : World} {base g n cap k : Nat} {e : TypeId} {xs : List Value} (h : w.ownsRow base e 1 (.slice (some ⟨g, 0, none⟩) n cap) n xs) (hk : k ≤ n) : w.ownsRow base e 1 (.slice (some ⟨g, 0, none⟩) k cap) k (xs.take k) := by
  obtain ⟨h1, h2⟩ := h
  rcases h2 with ⟨h, _⟩ | ⟨g', cap', cur, e', hb, hg, hn, hc, hs, ht⟩
  · cases h
  · cases e'
    refine ⟨by rw [List.length_take]; omega, .inr ⟨g, cap, cur, rfl, hb, hg, by omega, hc, hs, ?_⟩⟩
    rw [← ht, List.take_take]
    congr 1
    omega
def negKey (x : Int) : Bool := decide (x < 0)
def keysZ (l : List Int) : List Int := (sortZ l).filter fun x => !negKey x
theorem keys_pred (x : Int) (W : World) : FnGives Try.prog 78 #[] #[.int .i64 x] (.bool (negKey x)) W := by
  unfold FnGives
  simp only [List.append_toArray, List.append_nil]
  go_enter Try.func78, Try.ntmps78
  go_wp2
  go_ret
  exact ⟨rfl, 0, rfl⟩
def impl_Table_keys.f (l0_0 : List Int) : Option (List Int) := if 1 ≤ l0_0.length ∧ l0_0.length ≤ 1000000 then some (keysZ l0_0) else none
set_option maxHeartbeats 4000000 in
set_option maxRecDepth 100000 in
theorem impl_Table_keys.calls (A0_0 : Option Addr) (c0_0 : Nat) (l0_0 : List Int) (r : List Int) (w : World) (hr0_0 : Kd.C (Kd.int .i64) w A0_0 l0_0.length l0_0) (hc0_0 : l0_0.length ≤ c0_0) (h : impl_Table_keys.f l0_0 = some r) :
    Calls Try.prog 51 #[.agg #[.slice A0_0 l0_0.length c0_0]] w fun e w' => ∃ v0_ : Value, e = .returned (v0_) ∧ Kd.R (Kd.int .i64) 3 w' w.heap.size (fun _ => True) v0_ r ∧ Below w.heap.size w w' := by
  unfold impl_Table_keys.f at h
  split at h
  case isFalse => cases h
  rename_i hl
  obtain rfl := Option.some.inj h
  clear h
  have hbx : Below w.heap.size w (w.alloc (.cells #[.agg #[.slice A0_0 l0_0.length c0_0]] 28)) := (Below.refl _ w).alloc (Nat.le_refl _) _
  have hcall := fun o => sorted_own A0_0 c0_0 l0_0 (w.alloc o) (Kd.C_alloc hr0_0 o) (by omega)
  clear hr0_0
  go_enter Try.func51, Try.ntmps51
  go_wp2_with (go_at_call 77; refine (hcall _).mono ?_; rintro e w1 ⟨v, rfl, hrow, hnil, hb⟩)
  rcases hrow.2 with ⟨rfl, hz⟩ | ⟨gb, cap', cur, rfl, hbase, hgb, r1, r2, r3, r4⟩
  · omega
  · have hsl := sortZ_len l0_0
    have hH : Holds (Value.int .i64) w1 gb 0 (sortZ l0_0).toArray := holds_of_block_i hgb (by rw [hsl]; simpa using r4)
    have hD := Try.slices_DeleteFunc (Value.int .i64) (fun _ => rfl) negKey 78 #[] (enters_of Try.func78 (by kernel_rfl) rfl) 0 (fun w => Try.zeroValue3 w) gb 0 cap' (sortZ l0_0).toArray w1 (fun W x _ => keys_pred x W) (fun n os dk x _ => keys_pred x _) hH (by simp; omega) (by simp; omega)
    simp only [List.size_toArray, hsl] at hD
    go_wp2_with (go_at_call 76; refine hD.mono ?_; rintro e w2 ⟨rfl, q, rfl⟩)
    go_ret
    have hfl : ((sortZ l0_0).filter fun x => !negKey x).length ≤ l0_0.length := by have := List.length_filter_le (fun x => !negKey x) (sortZ l0_0); omega
    have hg := grownBy_sorted_i (w := w1) (g := gb) (n := q) (os := #[]) (((sortZ l0_0).filter fun x => !negKey x) ++ List.replicate (l0_0.length - ((sortZ l0_0).filter fun x => !negKey x).length) 0).toArray
    have ho := ownsRow_sorted_i (w := w1) (n := q) (os := #[]) (ss := sortZ l0_0) (ts := ((sortZ l0_0).filter fun x => !negKey x) ++ List.replicate (l0_0.length - ((sortZ l0_0).filter fun x => !negKey x).length) 0) (by simp; omega) hbase hgb (by omega) r2 r3
    rw [hsl] at ho
    have hk := own_take ho hfl
    rw [List.map_append, List.take_left' (by simp)] at hk
    refine ⟨_, rfl, Kd.R_lower (o_R_of_own rfl (by rw [grow_empty] at hk; exact hk) (fun _ _ => trivial)) (below_size (below_alloc (Below.refl w.heap.size w) _)), ?_⟩
    have hb2 : Below w.heap.size w w1 := below_step (below_alloc (Below.refl w.heap.size w) _) hb
    exact hb2.grown (by rw [grow_empty] at hg; exact hg) hb2.size (fun j hj => by cases hj; exact Nat.le_trans (below_size (below_alloc (Below.refl w.heap.size w) _)) hbase)
theorem isSizeC (a : Int) (w : World) : Calls Try.prog 70 #[.int .i64 a] w fun e w' => e = .returned (.bool (decide (2 ≤ a ∧ a ≤ 12))) ∧ Below w.heap.size w w' := by
  by_cases h1 : 2 ≤ a
  · by_cases h2 : a ≤ 12
    · have e1 : decide (2 ≤ a ∧ a ≤ 12) = true := decide_eq_true ⟨h1, h2⟩
      rw [e1]
      clear e1
      have d1 : decide (2 ≤ a) = true := decide_eq_true h1
      have d2 : decide (a ≤ 12) = true := decide_eq_true h2
      go_enter Try.func70, Try.ntmps70
      go_wp2_with go_in
      go_ret
      exact ⟨rfl, Below.refl _ _⟩
    · have e1 : decide (2 ≤ a ∧ a ≤ 12) = false := decide_eq_false (fun h => h2 h.2)
      rw [e1]
      clear e1
      have d1 : decide (2 ≤ a) = true := decide_eq_true h1
      have d2 : decide (a ≤ 12) = false := decide_eq_false h2
      go_enter Try.func70, Try.ntmps70
      go_wp2_with go_in
      go_ret
      exact ⟨rfl, Below.refl _ _⟩
  · have e1 : decide (2 ≤ a ∧ a ≤ 12) = false := decide_eq_false (fun h => h1 h.1)
    rw [e1]
    clear e1
    have d1 : decide (2 ≤ a) = false := decide_eq_false h1
    go_enter Try.func70, Try.ntmps70
    go_wp2_with go_in
    go_ret
    exact ⟨rfl, Below.refl _ _⟩
def areKeysB (l : List Int) (a : Int) : Bool := decide (2 ≤ a ∧ a ≤ 12) && decide ((l.length : Int) < a) && (l.all fun x => decide (0 ≤ x) && decide (x ≤ 999)) && decide ((Go.Lib.compact (sortZ l)).length = l.length)
def impl_areKeys.f (l0 : List Int) (a1 : Int) : Option Bool := if l0.length ≤ 1048576 then some (areKeysB l0 a1) else none
set_option maxHeartbeats 8000000 in
set_option maxRecDepth 100000 in
theorem impl_areKeys.calls (A0 : Option Addr) (c0 : Nat) (l0 : List Int) (a1 : Int) (r : Bool) (w : World) (hr0 : Kd.C (Kd.int .i64) w A0 l0.length l0) (hc0 : l0.length ≤ c0) (h : impl_areKeys.f l0 a1 = some r) :
    Calls Try.prog 54 #[.slice A0 l0.length c0, .int .i64 a1] w fun e w' => e = .returned (.bool r) ∧ Below w.heap.size w w' := by
  unfold impl_areKeys.f at h
  split at h
  case isFalse => cases h
  rename_i hl
  obtain rfl := Option.some.inj h
  clear h
  have hcall := sorted_own A0 c0 l0 w hr0 (by omega)
  have HR := Aside0.mk hr0
  have HC := Aside0.mk hc0
  have HL := Aside0.mk hl
  clear hr0 hc0 hl
  have hsl := sortZ_len l0
  go_enter Try.func54, Try.ntmps54
  go_wp2_with (go_at_call 77; refine hcall.mono ?_; rintro e w1 ⟨v, rfl, hrow, hnil, hb⟩)
  obtain ⟨s1, hs1⟩ : ∃ s1, s1 = decide (2 ≤ a1 ∧ a1 ≤ 12) := ⟨_, rfl⟩
  obtain ⟨s2, hs2⟩ : ∃ s2, s2 = decide ((l0.length : Int) < a1) := ⟨_, rfl⟩
  obtain ⟨s3, hs3⟩ : ∃ s3, s3 = (l0.all fun x => decide (0 ≤ x) && decide (x ≤ 999)) := ⟨_, rfl⟩
  obtain ⟨m, hm⟩ : ∃ m, m = (Go.Lib.compact (sortZ l0)).length := ⟨_, rfl⟩
  obtain ⟨s4, hs4⟩ : ∃ s4, s4 = decide (m = l0.length) := ⟨_, rfl⟩
  have HF : Aside0 (areKeysB l0 a1 = (s1 && s2 && s3 && s4)) := ⟨by rw [areKeysB, hs1, hs2, hs3, hs4, hm]⟩
  have HS1 := Aside0.mk hs1
  have HS3 := Aside0.mk hs3
  have HM := Aside0.mk hm
  have c2 : decide ((l0.length : Int) < a1) = s2 := hs2.symm
  have c4 : ((m : Int) == (l0.length : Int)) = s4 := by rw [hs4, Bool.eq_iff_iff, beq_iff_eq, decide_eq_true_iff]; omega
  clear hs1 hs2 hs3 hm
  rcases hrow.2 with ⟨rfl, hz⟩ | ⟨gb, cap', cur, rfl, hbase, hgb, r1, r2, r3, r4⟩
  · obtain rfl : l0 = [] := List.eq_nil_of_length_eq_zero hz
    obtain rfl : s3 = true := HS3.out
    obtain rfl : s4 = true := by rw [hs4, HM.out]; simp [sortZ, Go.Lib.compact, Go.Lib.compactUpTo]
    have c3 : decide ((0 : Int) < a1) = s2 := c2
    clear hs4 c4 c2 HS3 HM
    have HB := Aside0.mk hb
    have HR2 := Aside0.mk (Kd.C_below HR.out hb)
    clear hb hrow hcall hnil hz hsl
    go_wp2_with (go_at_call 81; refine (Try.slices_Compact_int_empty none 0 w1).mono ?_; rintro e w2 ⟨rfl, rfl⟩)
    cases s1 with
    | false =>
      go_wp2_with (first | (go_at_call 70; refine (isSizeC a1 _).mono ?_; rintro e w3 ⟨rfl, hb3⟩; rw [← HS1.out]; have nB_ := Aside0.mk (below_step HB.out hb3); have nR_ := Aside0.mk (Kd.C_below HR2.out hb3); clear HB HR2 hb3; have HB := nB_; have HR2 := nR_; clear nB_ nR_))
      go_ret
      exact ⟨by rw [HF.out]; rfl, HB.out⟩
    | true =>
      cases s2 with
      | false =>
        go_wp2_with (first | (go_at_call 70; refine (isSizeC a1 _).mono ?_; rintro e w3 ⟨rfl, hb3⟩; rw [← HS1.out]; have nB_ := Aside0.mk (below_step HB.out hb3); have nR_ := Aside0.mk (Kd.C_below HR2.out hb3); clear HB HR2 hb3; have HB := nB_; have HR2 := nR_; clear nB_ nR_))
        go_ret
        exact ⟨by rw [HF.out]; rfl, HB.out⟩
      | true =>
        go_wp2_with (first | (go_at_call 70; refine (isSizeC a1 _).mono ?_; rintro e w3 ⟨rfl, hb3⟩; rw [← HS1.out]; have nB_ := Aside0.mk (below_step HB.out hb3); have nR_ := Aside0.mk (Kd.C_below HR2.out hb3); clear HB HR2 hb3; have HB := nB_; have HR2 := nR_; clear nB_ nR_) | (go_at_call 71; refine (impl_areBetween.calls _ _ [] 0 999 _ _ HR2.out HC.out rfl).mono ?_; rintro e w3 ⟨rfl, hb3⟩; have nB_ := Aside0.mk (below_step HB.out hb3); clear HB HR2 hb3; have HB := nB_; clear nB_))
        go_ret
        exact ⟨by rw [HF.out]; rfl, HB.out⟩
  · have hH : Holds (Value.int .i64) w1 gb 0 (sortZ l0).toArray := holds_of_block_i hgb (by rw [hsl]; simpa using r4)
    have hD := Try.slices_Compact_int gb 0 cap' (sortZ l0) w1 hH (by have := HL.out; omega) (by omega)
    simp only [hsl, ← HM.out] at hD
    clear hs4
    go_wp2_with (go_at_call 81; refine hD.mono ?_; rintro e w2 ⟨rfl, q, hw2⟩; have hb2_ : Below w.heap.size w w2 := (by rw [hw2]; exact hb.grown (by have hg := grownBy_sorted_i (w := w1) (g := gb) (n := q) (os := #[]) (Go.Lib.compact (sortZ l0) ++ List.replicate (l0.length - m) 0).toArray; rw [grow_empty] at hg; exact hg) hb.size (fun j hj => by cases hj; exact hbase)); have HB := Aside0.mk hb2_; have HR2 := Aside0.mk (Kd.C_below HR.out hb2_); clear hb hb2_ hw2 hrow hgb r1 r2 r3 r4 hH hD hcall hnil)
    cases s1 with
    | false =>
      go_wp2_with (first | (go_at_call 70; refine (isSizeC a1 _).mono ?_; rintro e w3 ⟨rfl, hb3⟩; rw [← HS1.out]; have nB_ := Aside0.mk (below_step HB.out hb3); have nR_ := Aside0.mk (Kd.C_below HR2.out hb3); clear HB HR2 hb3; have HB := nB_; have HR2 := nR_; clear nB_ nR_))
      go_ret
      exact ⟨by rw [HF.out]; rfl, HB.out⟩
    | true =>
      cases s2 with
      | false =>
        go_wp2_with (first | (go_at_call 70; refine (isSizeC a1 _).mono ?_; rintro e w3 ⟨rfl, hb3⟩; rw [← HS1.out]; have nB_ := Aside0.mk (below_step HB.out hb3); have nR_ := Aside0.mk (Kd.C_below HR2.out hb3); clear HB HR2 hb3; have HB := nB_; have HR2 := nR_; clear nB_ nR_))
        go_ret
        exact ⟨by rw [HF.out]; rfl, HB.out⟩
      | true =>
        cases s3 with
        | false =>
          go_wp2_with (first | (go_at_call 70; refine (isSizeC a1 _).mono ?_; rintro e w3 ⟨rfl, hb3⟩; rw [← HS1.out]; have nB_ := Aside0.mk (below_step HB.out hb3); have nR_ := Aside0.mk (Kd.C_below HR2.out hb3); clear HB HR2 hb3; have HB := nB_; have HR2 := nR_; clear nB_ nR_) | (go_at_call 71; refine (impl_areBetween.calls _ _ l0 0 999 _ _ HR2.out HC.out rfl).mono ?_; rintro e w3 ⟨rfl, hb3⟩; rw [← HS3.out]; have nB_ := Aside0.mk (below_step HB.out hb3); clear HB HR2 hb3; have HB := nB_; clear nB_))
          go_ret
          exact ⟨by rw [HF.out]; rfl, HB.out⟩
        | true =>
          cases s4 with
          | false =>
            go_wp2_with (first | (go_at_call 70; refine (isSizeC a1 _).mono ?_; rintro e w3 ⟨rfl, hb3⟩; rw [← HS1.out]; have nB_ := Aside0.mk (below_step HB.out hb3); have nR_ := Aside0.mk (Kd.C_below HR2.out hb3); clear HB HR2 hb3; have HB := nB_; have HR2 := nR_; clear nB_ nR_) | (go_at_call 71; refine (impl_areBetween.calls _ _ l0 0 999 _ _ HR2.out HC.out rfl).mono ?_; rintro e w3 ⟨rfl, hb3⟩; rw [← HS3.out]; have nB_ := Aside0.mk (below_step HB.out hb3); clear HB HR2 hb3; have HB := nB_; clear nB_))
            go_ret
            exact ⟨by rw [HF.out]; rfl, HB.out⟩
          | true =>
            obtain rfl : m = l0.length := by have := beq_iff_eq.mp c4; omega
            clear c4
            go_wp2_with (first | (go_at_call 70; refine (isSizeC a1 _).mono ?_; rintro e w3 ⟨rfl, hb3⟩; rw [← HS1.out]; have nB_ := Aside0.mk (below_step HB.out hb3); have nR_ := Aside0.mk (Kd.C_below HR2.out hb3); clear HB HR2 hb3; have HB := nB_; have HR2 := nR_; clear nB_ nR_) | (go_at_call 71; refine (impl_areBetween.calls _ _ l0 0 999 _ _ HR2.out HC.out rfl).mono ?_; rintro e w3 ⟨rfl, hb3⟩; rw [← HS3.out]; have nB_ := Aside0.mk (below_step HB.out hb3); clear HB HR2 hb3; have HB := nB_; clear nB_))
            go_ret
            exact ⟨by rw [HF.out]; rfl, HB.out⟩
end Go.Proofs.Yteeimoankbgcaaa.G
namespace Go.Proofs.Yteeimoankbgcaaa.G
open Go.RowKit Go.Proofs.YteeimoankbgcaaaW.PrintWords Go.Proofs.YteeimoankbgcaaaW.PrintLast Go.Proofs.YteeimoankbgcaaaW.PrintMore
attribute [local go_sem] max2_int min2_int max_two min_two max_three min_three max_four min_four   -- for this text's walks alone
set_option linter.unusedVariables false
set_option linter.unusedSimpArgs false
/-! ### impl_KeysOf: function 21 -/
def impl_KeysOf.f (k : Nat) (l0_0 : List Int) : Option (List Int × Bool) := (impl_isTable.f k l0_0).bind fun t322 => (if t322 = true then ((impl_Table_keys.f l0_0).bind fun t323 => (some (t323, true))) else (some (([] : List Int), false)))
theorem impl_KeysOf.mono : ∀ a0 k, LeO (impl_KeysOf.f k a0) (impl_KeysOf.f (k + 1) a0) := by
  intro a0 k
  unfold impl_KeysOf.f
  repeat' first
      | (with_reducible exact impl_isTable.mono _ _)
      | (with_reducible exact LeO.refl _)
      | (with_reducible exact LeO.none _)
      | (with_reducible refine LeO.ite ?_ ?_)
      | (with_reducible refine LeO.bind ?_ (fun _ => ?_))
      | exact impl_isTable.mono _ _
      | exact LeO.none _
      | refine LeO.ite ?_ ?_
      | refine LeO.bind ?_ (fun _ => ?_)
set_option maxHeartbeats 8000000 in
set_option maxRecDepth 100000 in
theorem impl_KeysOf.calls (k : Nat) (A0_0 : Option Addr) (c0_0 : Nat) (l0_0 : List Int) (r1 : List Int) (r2 : Bool) (w : World) (hr0_0 : Kd.C (Kd.int .i64) w A0_0 l0_0.length l0_0) (hc0_0 : l0_0.length ≤ c0_0) (h : impl_KeysOf.f k l0_0 = some (r1, r2)) :
    Calls Try.prog 21 #[.agg #[.slice A0_0 l0_0.length c0_0]] w fun e w' => ∃ v0_ : Value, e = .returned (.tuple #[v0_, .bool r2]) ∧ Kd.R (Kd.int .i64) 3 w' w.heap.size (fun _ => True) v0_ r1 ∧ Below w.heap.size w w' := by
  have hu28 := Try.underlying28
  have HR0_0 := Aside0.mk hr0_0
  have HC0_0 := Aside0.mk hc0_0
  clear hr0_0 hc0_0
  have HB := Aside0.mk (Below.refl w.heap.size w)
  have H : ((impl_isTable.f k l0_0).bind fun t322 => (if t322 = true then ((impl_Table_keys.f l0_0).bind fun t323 => (some (t323, true))) else (some (([] : List Int), false)))) = some (r1, r2) := h
  clear h
  replace H := Option.bind_eq_some_iff.mp H
  obtain ⟨t322, A20, H⟩ := H
  replace H : (if t322 = true then ((impl_Table_keys.f l0_0).bind fun t323 => (some (t323, true))) else (some (([] : List Int), false))) = some (r1, r2) := H
  have A2 := Aside0.mk A20
  clear A20
  by_cases c3 : t322 = true
  · subst c3
    have H1 : ((impl_Table_keys.f l0_0).bind fun t323 => (some (t323, true))) = some (r1, r2) := by rw [if_pos rfl] at H; exact H
    clear H
    have H := H1
    clear H1
    replace H := Option.bind_eq_some_iff.mp H
    obtain ⟨t323, A40, H⟩ := H
    replace H : (some (t323, true)) = some (r1, r2) := H
    have A4 := Aside0.mk A40
    clear A40
    simp only [Option.some.injEq, Prod.mk.injEq] at H
    obtain ⟨rfl, rfl⟩ := H
    go_enter Try.func21, Try.ntmps21
    go_wp2_with (first | ((with_reducible refine gate_dst (N := 1) rfl ?_); refine box_event ?hg (N := 1) ?hd (cs := #[.slice A0_0 l0_0.length c0_0]) (t := 28) ?hr ?_; (case hd => rfl); (case hg => rfl); (case hr => first | (go_simp; done) | (go_simp; rfl)); intro gb321 hg w5 hbox hb; have n0_ := Aside0.mk (below_step (by repeat (first | (with_reducible first | exact HB.out | apply below_alloc | apply pw_below_drewN | apply below_drew1) | exact HB.out)) hb); have n1_ := Aside0.mk (hbox); have n2_ := Aside0.mk ((by rw [hg]; exact (below_size (by repeat (first | (with_reducible first | exact HB.out | apply below_alloc | apply pw_below_drewN | apply below_drew1) | exact HB.out))) : w.heap.size ≤ gb321)); have n3_ := Aside0.mk ((by rw [hg]; exact (below_size (by repeat (first | (with_reducible first | exact HB.out | apply below_alloc | apply pw_below_drewN | apply below_drew1) | exact HB.out))) : w.heap.size ≤ gb321)); clear HB; have HB := n0_; have BK321 := n1_; have GW321 := n2_; have GE321 := n3_; clear n0_ n1_ n2_ n3_; clear hb hbox hg; have hcz6_0 : w5.cell? ⟨gb321, 0, none⟩ = some (.slice A0_0 l0_0.length c0_0) := (blk_cell BK321.out 0).trans rfl; have hfz6_0 := blk_frozen BK321.out 0) | ((with_reducible refine gate_callee (f := 40) rfl ?_); refine goesL_ (some 5) rfl rfl Try.func40 (by kernel_rfl) rfl #[.agg #[.slice A0_0 l0_0.length c0_0]] rfl (by (try simp only [List.map_toArray, List.map_cons, List.map_nil]); first | done | rfl | (simp only [List.length_drop, List.length_take]; rfl)) ?_; (with_reducible refine (impl_isTable.calls k _ _ l0_0 true _ ?side1 ?side2 A2.out).mono ?_); (case side1 => repeat (first | exact (Kd.C_below HR0_0.out HB.out) | (with_reducible refine Kd.C_alloc ?_ _) | (with_reducible refine Kd.C_drewN ?_ _) | (with_reducible refine Kd.C_drew ?_))); (case side2 => exact HC0_0.out); rintro e w7 ⟨rfl, hb⟩; refine ⟨_, rfl, ?_⟩; have n0_ := Aside0.mk (blk_below (g := gb321) (o := .cells #[.slice A0_0 l0_0.length c0_0] 28 (0, 0)) (by (with_reducible repeat (first | refine blk_drewN ?_ _ | refine blk_drew ?_ | refine blk_alloc ?_ _)); exact BK321.out) hb); have n1_ := Aside0.mk (below_step (by repeat (first | (with_reducible first | exact HB.out | apply below_alloc | apply pw_below_drewN | apply below_drew1 | refine below_set ?_ GE321.out) | exact HB.out)) hb); clear BK321; clear HB; have BK321 := n0_; have HB := n1_; clear n0_ n1_; (try clear hb); (try clear hb2); (try clear hk); (try clear hi); have hcz8_0 : w7.cell? ⟨gb321, 0, none⟩ = some (.slice A0_0 l0_0.length c0_0) := (blk_cell BK321.out 0).trans rfl; have hfz8_0 := blk_frozen BK321.out 0) | ((with_reducible refine gate_callee (f := 51) rfl ?_); refine goesL_ (some 8) rfl rfl Try.func51 (by kernel_rfl) rfl #[.agg #[.slice A0_0 l0_0.length c0_0]] rfl (by (try simp only [List.map_toArray, List.map_cons, List.map_nil]); first | done | rfl | (simp only [List.length_drop, List.length_take]; rfl)) ?_; (with_reducible refine (impl_Table_keys.calls _ _ l0_0 t323 _ ?side1 ?side2 A4.out).mono ?_); (case side1 => repeat (first | exact (Kd.C_below HR0_0.out HB.out) | (with_reducible refine Kd.C_alloc ?_ _) | (with_reducible refine Kd.C_drewN ?_ _) | (with_reducible refine Kd.C_drew ?_))); (case side2 => exact HC0_0.out); rintro e w9 ⟨v324, rfl, ho0, hb⟩; refine ⟨_, rfl, ?_⟩; have n0_ := Aside0.mk (Kd.R_lower ho0 (below_size (by repeat (first | (with_reducible first | exact HB.out | apply below_alloc | apply pw_below_drewN | apply below_drew1 | refine below_set ?_ GE321.out) | exact HB.out)))); have n1_ := Aside0.mk (blk_below (g := gb321) (o := .cells #[.slice A0_0 l0_0.length c0_0] 28 (0, 0)) (by (with_reducible repeat (first | refine blk_drewN ?_ _ | refine blk_drew ?_ | refine blk_alloc ?_ _)); exact BK321.out) hb); have n2_ := Aside0.mk (below_step (by repeat (first | (with_reducible first | exact HB.out | apply below_alloc | apply pw_below_drewN | apply below_drew1 | refine below_set ?_ GE321.out) | exact HB.out)) hb); clear BK321; clear HB; have HO325 := n0_; have BK321 := n1_; have HB := n2_; clear n0_ n1_ n2_; (try clear hb); (try clear hb2); (try clear hk); (try clear hi); (try clear ho0)))
    go_ret2
    exact ⟨_, by first | rfl | (simp [errW_none, errW_some] <;> rfl) | (simp [*, errW_none, errW_some] <;> rfl), by (with_reducible repeat (first | apply Kd.R_alloc | apply Kd.R_drewN | apply Kd.R_drew)); exact HO325.out, by repeat (first | (with_reducible first | exact HB.out | apply below_alloc | apply pw_below_drewN | apply below_drew1 | refine below_set ?_ GE321.out) | exact HB.out)⟩
  · replace c3 := Bool.eq_false_iff.mpr c3
    subst c3
    have H1 : (some (([] : List Int), false)) = some (r1, r2) := by rw [if_neg (show ¬ (false = true) by decide)] at H; exact H
    clear H
    have H := H1
    clear H1
    simp only [Option.some.injEq, Prod.mk.injEq] at H
    obtain ⟨rfl, rfl⟩ := H
    go_enter Try.func21, Try.ntmps21
    go_wp2_with (first | ((with_reducible refine gate_dst (N := 1) rfl ?_); refine box_event ?hg (N := 1) ?hd (cs := #[.slice A0_0 l0_0.length c0_0]) (t := 28) ?hr ?_; (case hd => rfl); (case hg => rfl); (case hr => first | (go_simp; done) | (go_simp; rfl)); intro gb321 hg w10 hbox hb; have n0_ := Aside0.mk (below_step (by repeat (first | (with_reducible first | exact HB.out | apply below_alloc | apply pw_below_drewN | apply below_drew1) | exact HB.out)) hb); have n1_ := Aside0.mk (hbox); have n2_ := Aside0.mk ((by rw [hg]; exact (below_size (by repeat (first | (with_reducible first | exact HB.out | apply below_alloc | apply pw_below_drewN | apply below_drew1) | exact HB.out))) : w.heap.size ≤ gb321)); have n3_ := Aside0.mk ((by rw [hg]; exact (below_size (by repeat (first | (with_reducible first | exact HB.out | apply below_alloc | apply pw_below_drewN | apply below_drew1) | exact HB.out))) : w.heap.size ≤ gb321)); clear HB; have HB := n0_; have BK321 := n1_; have GW321 := n2_; have GE321 := n3_; clear n0_ n1_ n2_ n3_; clear hb hbox hg; have hcz11_0 : w10.cell? ⟨gb321, 0, none⟩ = some (.slice A0_0 l0_0.length c0_0) := (blk_cell BK321.out 0).trans rfl; have hfz11_0 := blk_frozen BK321.out 0) | ((with_reducible refine gate_callee (f := 40) rfl ?_); refine goesL_ (some 5) rfl rfl Try.func40 (by kernel_rfl) rfl #[.agg #[.slice A0_0 l0_0.length c0_0]] rfl (by (try simp only [List.map_toArray, List.map_cons, List.map_nil]); first | done | rfl | (simp only [List.length_drop, List.length_take]; rfl)) ?_; (with_reducible refine (impl_isTable.calls k _ _ l0_0 false _ ?side1 ?side2 A2.out).mono ?_); (case side1 => repeat (first | exact (Kd.C_below HR0_0.out HB.out) | (with_reducible refine Kd.C_alloc ?_ _) | (with_reducible refine Kd.C_drewN ?_ _) | (with_reducible refine Kd.C_drew ?_))); (case side2 => exact HC0_0.out); rintro e w12 ⟨rfl, hb⟩; refine ⟨_, rfl, ?_⟩; have n0_ := Aside0.mk (blk_below (g := gb321) (o := .cells #[.slice A0_0 l0_0.length c0_0] 28 (0, 0)) (by (with_reducible repeat (first | refine blk_drewN ?_ _ | refine blk_drew ?_ | refine blk_alloc ?_ _)); exact BK321.out) hb); have n1_ := Aside0.mk (below_step (by repeat (first | (with_reducible first | exact HB.out | apply below_alloc | apply pw_below_drewN | apply below_drew1 | refine below_set ?_ GE321.out) | exact HB.out)) hb); clear BK321; clear HB; have BK321 := n0_; have HB := n1_; clear n0_ n1_; (try clear hb); (try clear hb2); (try clear hk); (try clear hi)))
    go_ret2
    exact ⟨_, by first | rfl | (simp [errW_none, errW_some] <;> rfl) | (simp [*, errW_none, errW_some] <;> rfl), by first | exact Kd.R_nil _ _ _ _ _ | exact Kd.N_nil _ _ _ _ _ | exact Kd.V_nil _ _ _ _ _ | exact Kd.Q_nil _ _ _ _ _ | exact Kd.S_nil _ _ _ _ _, by repeat (first | (with_reducible first | exact HB.out | apply below_alloc | apply pw_below_drewN | apply below_drew1 | refine below_set ?_ GE321.out) | exact HB.out)⟩
/-! ### laws_FnExactKeysOf: function 5 -/
mutual
def laws_FnExactKeysOf.j0 : Nat → List Int → Bool → List Int → Bool → Bool → List Int → List Int → Option (Bool)
  | 0, _, _, _, _, _, _, _ => none
  | k + 1, x4, x5, x7, x8, x40, x327000, x339000 => if x40 = true then (some false) else ((laws_toTable.f k x327000).bind fun t344 => ((laws_eqTable.f k x339000 t344).bind fun t347 => (if t347 = true then ((laws_markTable.f k x339000 1).bind fun bt348 => (if bt348.1 < 0 then (laws_FnExactKeysOf.j1 k x4 x5 x7 true x327000) else ((laws_eqIntS.f k x7 x4).bind fun t350 => (if t350 = true then (laws_FnExactKeysOf.j1 k x4 x5 x7 (x8 != x5) x327000) else (laws_FnExactKeysOf.j1 k x4 x5 x7 true x327000))))) else (some false))))
def laws_FnExactKeysOf.j1 : Nat → List Int → Bool → List Int → Bool → List Int → Option (Bool)
  | 0, _, _, _, _, _ => none
  | k + 1, x4, x5, x7, x61, x327000 => if x61 = true then (some false) else ((laws_markIntS.f k x7 1).bind fun bt351 => ((laws_heldIntS.f k bt351.2 1).bind fun t353 => (if t353 < 0 then (some false) else (if t353 = bt351.1 then ((laws_toTable.f k x327000).bind fun t354 => ((impl_KeysOf.f k t354).bind fun bt357 => ((laws_eqIntS.f k bt357.1 x4).bind fun t361 => (if t361 = true then (laws_FnExactKeysOf.j2 k bt351.2 bt351.1 (bt357.2 != x5)) else (laws_FnExactKeysOf.j2 k bt351.2 bt351.1 true))))) else (some false)))))
def laws_FnExactKeysOf.j2 : Nat → List Int → Int → Bool → Option (Bool)
  | 0, _, _, _ => none
  | k + 1, x7, x10, x87 => if x87 = true then (some false) else ((laws_heldIntS.f k x7 1).bind fun t362 => (if t362 < 0 then (some false) else (if t362 = x10 then (some true) else (some false))))
end
def laws_FnExactKeysOf.f (k : Nat) (l0_0 : List Int) : Option (Bool) := (laws_szTable.f l0_0 1048576).bind fun t327 => (if t327 < 0 then (some true) else ((laws_toTable.f k l0_0).bind fun t328 => ((spec_KeysOf.f k t328).bind fun bt331 => ((laws_toTable.f k l0_0).bind fun t335 => ((impl_KeysOf.f k t335).bind fun bt339 => ((laws_eqIntS.f k bt339.1 bt331.1).bind fun t343 => (if t343 = true then (laws_FnExactKeysOf.j0 k bt331.1 bt331.2 bt339.1 bt339.2 (bt339.2 != bt331.2) l0_0 t335) else (laws_FnExactKeysOf.j0 k bt331.1 bt331.2 bt339.1 bt339.2 true l0_0 t335))))))))
theorem laws_FnExactKeysOf.mono_l : ∀ k, (∀ y0 y1 y2 y3 y4 y5 y6, LeO (laws_FnExactKeysOf.j0 k y0 y1 y2 y3 y4 y5 y6) (laws_FnExactKeysOf.j0 (k + 1) y0 y1 y2 y3 y4 y5 y6)) ∧ (∀ y0 y1 y2 y3 y4, LeO (laws_FnExactKeysOf.j1 k y0 y1 y2 y3 y4) (laws_FnExactKeysOf.j1 (k + 1) y0 y1 y2 y3 y4)) ∧ (∀ y0 y1 y2, LeO (laws_FnExactKeysOf.j2 k y0 y1 y2) (laws_FnExactKeysOf.j2 (k + 1) y0 y1 y2))
  | 0 => ⟨fun _ _ _ _ _ _ _ r h => by simp [laws_FnExactKeysOf.j0] at h, fun _ _ _ _ _ r h => by simp [laws_FnExactKeysOf.j1] at h, fun _ _ _ r h => by simp [laws_FnExactKeysOf.j2] at h⟩
  | k + 1 => by
    obtain ⟨ih0, ih1, ih2⟩ := laws_FnExactKeysOf.mono_l k
    refine ⟨?_, ?_, ?_⟩
    · intro y0 y1 y2 y3 y4 y5 y6
      unfold laws_FnExactKeysOf.j0
      repeat' first
      | (with_reducible exact ih0 _ _ _ _ _ _ _)
      | (with_reducible exact ih1 _ _ _ _ _)
      | (with_reducible exact ih2 _ _ _)
      | (with_reducible exact impl_KeysOf.mono _ _)
      | (with_reducible exact laws_eqIntS.mono _ _ _)
      | (with_reducible exact laws_eqTable.mono _ _ _)
      | (with_reducible exact laws_heldIntS.mono _ _ _)
      | (with_reducible exact laws_markIntS.mono _ _ _)
      | (with_reducible exact laws_markTable.mono _ _ _)
      | (with_reducible exact laws_toTable.mono _ _)
      | (with_reducible exact spec_KeysOf.mono _ _)
      | (with_reducible exact LeO.refl _)
      | (with_reducible exact LeO.none _)
      | (with_reducible refine LeO.ite ?_ ?_)
      | (with_reducible refine LeO.bind ?_ (fun _ => ?_))
      | exact ih0 _ _ _ _ _ _ _
      | exact ih1 _ _ _ _ _
      | exact ih2 _ _ _
      | exact impl_KeysOf.mono _ _
      | exact laws_eqIntS.mono _ _ _
      | exact laws_eqTable.mono _ _ _
      | exact laws_heldIntS.mono _ _ _
      | exact laws_markIntS.mono _ _ _
      | exact laws_markTable.mono _ _ _
      | exact laws_toTable.mono _ _
      | exact spec_KeysOf.mono _ _
      | exact LeO.none _
      | refine LeO.ite ?_ ?_
      | refine LeO.bind ?_ (fun _ => ?_)
    · intro y0 y1 y2 y3 y4
      unfold laws_FnExactKeysOf.j1
      repeat' first
      | (with_reducible exact ih0 _ _ _ _ _ _ _)
      | (with_reducible exact ih1 _ _ _ _ _)
      | (with_reducible exact ih2 _ _ _)
      | (with_reducible exact impl_KeysOf.mono _ _)
      | (with_reducible exact laws_eqIntS.mono _ _ _)
      | (with_reducible exact laws_eqTable.mono _ _ _)
      | (with_reducible exact laws_heldIntS.mono _ _ _)
      | (with_reducible exact laws_markIntS.mono _ _ _)
      | (with_reducible exact laws_markTable.mono _ _ _)
      | (with_reducible exact laws_toTable.mono _ _)
      | (with_reducible exact spec_KeysOf.mono _ _)
      | (with_reducible exact LeO.refl _)
      | (with_reducible exact LeO.none _)
      | (with_reducible refine LeO.ite ?_ ?_)
      | (with_reducible refine LeO.bind ?_ (fun _ => ?_))
      | exact ih0 _ _ _ _ _ _ _
      | exact ih1 _ _ _ _ _
      | exact ih2 _ _ _
      | exact impl_KeysOf.mono _ _
      | exact laws_eqIntS.mono _ _ _
      | exact laws_eqTable.mono _ _ _
      | exact laws_heldIntS.mono _ _ _
      | exact laws_markIntS.mono _ _ _
      | exact laws_markTable.mono _ _ _
      | exact laws_toTable.mono _ _
      | exact spec_KeysOf.mono _ _
      | exact LeO.none _
      | refine LeO.ite ?_ ?_
      | refine LeO.bind ?_ (fun _ => ?_)
    · intro y0 y1 y2
      unfold laws_FnExactKeysOf.j2
      repeat' first
      | (with_reducible exact ih0 _ _ _ _ _ _ _)
      | (with_reducible exact ih1 _ _ _ _ _)
      | (with_reducible exact ih2 _ _ _)
      | (with_reducible exact impl_KeysOf.mono _ _)
      | (with_reducible exact laws_eqIntS.mono _ _ _)
      | (with_reducible exact laws_eqTable.mono _ _ _)
      | (with_reducible exact laws_heldIntS.mono _ _ _)
      | (with_reducible exact laws_markIntS.mono _ _ _)
      | (with_reducible exact laws_markTable.mono _ _ _)
      | (with_reducible exact laws_toTable.mono _ _)
      | (with_reducible exact spec_KeysOf.mono _ _)
      | (with_reducible exact LeO.refl _)
      | (with_reducible exact LeO.none _)
      | (with_reducible refine LeO.ite ?_ ?_)
      | (with_reducible refine LeO.bind ?_ (fun _ => ?_))
      | exact ih0 _ _ _ _ _ _ _
      | exact ih1 _ _ _ _ _
      | exact ih2 _ _ _
      | exact impl_KeysOf.mono _ _
      | exact laws_eqIntS.mono _ _ _
      | exact laws_eqTable.mono _ _ _
      | exact laws_heldIntS.mono _ _ _
      | exact laws_markIntS.mono _ _ _
      | exact laws_markTable.mono _ _ _
      | exact laws_toTable.mono _ _
      | exact spec_KeysOf.mono _ _
      | exact LeO.none _
      | refine LeO.ite ?_ ?_
      | refine LeO.bind ?_ (fun _ => ?_)
theorem laws_FnExactKeysOf.mono : ∀ a0 k, LeO (laws_FnExactKeysOf.f k a0) (laws_FnExactKeysOf.f (k + 1) a0) := by
  intro a0 k
  obtain ⟨ih0, ih1, ih2⟩ := laws_FnExactKeysOf.mono_l k
  unfold laws_FnExactKeysOf.f
  repeat' first
      | (with_reducible exact ih0 _ _ _ _ _ _ _)
      | (with_reducible exact ih1 _ _ _ _ _)
      | (with_reducible exact ih2 _ _ _)
      | (with_reducible exact impl_KeysOf.mono _ _)
      | (with_reducible exact laws_eqIntS.mono _ _ _)
      | (with_reducible exact laws_eqTable.mono _ _ _)
      | (with_reducible exact laws_heldIntS.mono _ _ _)
      | (with_reducible exact laws_markIntS.mono _ _ _)
      | (with_reducible exact laws_markTable.mono _ _ _)
      | (with_reducible exact laws_toTable.mono _ _)
      | (with_reducible exact spec_KeysOf.mono _ _)
      | (with_reducible exact LeO.refl _)
      | (with_reducible exact LeO.none _)
      | (with_reducible refine LeO.ite ?_ ?_)
      | (with_reducible refine LeO.bind ?_ (fun _ => ?_))
      | exact ih0 _ _ _ _ _ _ _
      | exact ih1 _ _ _ _ _
      | exact ih2 _ _ _
      | exact impl_KeysOf.mono _ _
      | exact laws_eqIntS.mono _ _ _
      | exact laws_eqTable.mono _ _ _
      | exact laws_heldIntS.mono _ _ _
      | exact laws_markIntS.mono _ _ _
      | exact laws_markTable.mono _ _ _
      | exact laws_toTable.mono _ _
      | exact spec_KeysOf.mono _ _
      | exact LeO.none _
      | refine LeO.ite ?_ ?_
      | refine LeO.bind ?_ (fun _ => ?_)
set_option maxHeartbeats 8000000 in
set_option maxRecDepth 100000 in
theorem laws_FnExactKeysOf.calls (k : Nat) (A0_0 : Option Addr) (c0_0 : Nat) (l0_0 : List Int) (r : Bool) (w : World) (hr0_0 : Kd.C (Kd.int .i64) w A0_0 l0_0.length l0_0) (hc0_0 : l0_0.length ≤ c0_0) (h : laws_FnExactKeysOf.f k l0_0 = some r) :
    Calls Try.prog 5 #[.agg #[.slice A0_0 l0_0.length c0_0]] w fun e w' => e = .returned (.bool r) ∧ Below w.heap.size w w' := by
  have hu24 := Try.underlying24
  have hu28 := Try.underlying28
  have HR0_0 := Aside0.mk hr0_0
  have HC0_0 := Aside0.mk hc0_0
  clear hr0_0 hc0_0
  have HB := Aside0.mk (Below.refl w.heap.size w)
  have H : ((laws_szTable.f l0_0 1048576).bind fun t327 => (if t327 < 0 then (some true) else ((laws_toTable.f k l0_0).bind fun t328 => ((spec_KeysOf.f k t328).bind fun bt331 => ((laws_toTable.f k l0_0).bind fun t335 => ((impl_KeysOf.f k t335).bind fun bt339 => ((laws_eqIntS.f k bt339.1 bt331.1).bind fun t343 => (if t343 = true then (laws_FnExactKeysOf.j0 k bt331.1 bt331.2 bt339.1 bt339.2 (bt339.2 != bt331.2) l0_0 t335) else (laws_FnExactKeysOf.j0 k bt331.1 bt331.2 bt339.1 bt339.2 true l0_0 t335))))))))) = some r := h
  clear h
  replace H := Option.bind_eq_some_iff.mp H
  obtain ⟨t327, A20, H⟩ := H
  replace H : (if t327 < 0 then (some true) else ((laws_toTable.f k l0_0).bind fun t328 => ((spec_KeysOf.f k t328).bind fun bt331 => ((laws_toTable.f k l0_0).bind fun t335 => ((impl_KeysOf.f k t335).bind fun bt339 => ((laws_eqIntS.f k bt339.1 bt331.1).bind fun t343 => (if t343 = true then (laws_FnExactKeysOf.j0 k bt331.1 bt331.2 bt339.1 bt339.2 (bt339.2 != bt331.2) l0_0 t335) else (laws_FnExactKeysOf.j0 k bt331.1 bt331.2 bt339.1 bt339.2 true l0_0 t335)))))))) = some r := H
  have A2 := Aside0.mk A20
  clear A20
  by_cases c3 : t327 < 0
  · rw [if_pos c3] at H
    have c3b0 : decide (t327 < 0) = true := decide_eq_true c3
    clear c3
    obtain rfl := Option.some.inj H
    go_enter Try.func5, Try.ntmps5
    go_wp2_with (first | ((with_reducible refine gate_dst (N := 1) rfl ?_); refine box_event ?hg (N := 1) ?hd (cs := #[.slice A0_0 l0_0.length c0_0]) (t := 24) ?hr ?_; (case hd => rfl); (case hg => rfl); (case hr => first | (go_simp; done) | (go_simp; rfl)); intro gb326 hg w4 hbox hb; have n0_ := Aside0.mk (below_step (by repeat (first | (with_reducible first | exact HB.out | apply below_alloc | apply pw_below_drewN | apply below_drew1) | exact HB.out)) hb); have n1_ := Aside0.mk (hbox); have n2_ := Aside0.mk ((by rw [hg]; exact (below_size (by repeat (first | (with_reducible first | exact HB.out | apply below_alloc | apply pw_below_drewN | apply below_drew1) | exact HB.out))) : w.heap.size ≤ gb326)); have n3_ := Aside0.mk ((by rw [hg]; exact (below_size (by repeat (first | (with_reducible first | exact HB.out | apply below_alloc | apply pw_below_drewN | apply below_drew1) | exact HB.out))) : w.heap.size ≤ gb326)); clear HB; have HB := n0_; have BK326 := n1_; have GW326 := n2_; have GE326 := n3_; clear n0_ n1_ n2_ n3_; clear hb hbox hg; have hcz5_0 : w4.cell? ⟨gb326, 0, none⟩ = some (.slice A0_0 l0_0.length c0_0) := (blk_cell BK326.out 0).trans rfl; have hfz5_0 := blk_frozen BK326.out 0) | ((with_reducible refine gate_callee (f := 11) rfl ?_); refine goesL_ (some 16) rfl rfl Try.func11 (by kernel_rfl) rfl #[.agg #[.slice A0_0 l0_0.length c0_0], .int .i64 1048576] rfl (by (try simp only [List.map_toArray, List.map_cons, List.map_nil]); first | done | rfl | (simp only [List.length_drop, List.length_take]; rfl)) ?_; (with_reducible refine (laws_szTable.calls _ _ l0_0 1048576 t327 _ ?side1 ?side2 A2.out).mono ?_); (case side1 => repeat (first | exact (Kd.C_below HR0_0.out HB.out) | (with_reducible refine Kd.C_alloc ?_ _) | (with_reducible refine Kd.C_drewN ?_ _) | (with_reducible refine Kd.C_drew ?_))); (case side2 => exact HC0_0.out); rintro e w6 ⟨rfl, hb⟩; refine ⟨_, rfl, ?_⟩; have n0_ := Aside0.mk (blk_below (g := gb326) (o := .cells #[.slice A0_0 l0_0.length c0_0] 24 (0, 0)) (by (with_reducible repeat (first | refine blk_drewN ?_ _ | refine blk_drew ?_ | refine blk_alloc ?_ _)); exact BK326.out) hb); have n1_ := Aside0.mk (below_step (by repeat (first | (with_reducible first | exact HB.out | apply below_alloc | apply pw_below_drewN | apply below_drew1 | refine below_set ?_ GE326.out) | exact HB.out)) hb); clear BK326; clear HB; have BK326 := n0_; have HB := n1_; clear n0_ n1_; (try clear hb); (try clear hb2); (try clear hk); (try clear hi)))
    go_ret
    exact ⟨by first | rfl | (simp [errW_none, errW_some] <;> rfl) | (simp [*, errW_none, errW_some] <;> rfl), by repeat (first | (with_reducible first | exact HB.out | apply below_alloc | apply pw_below_drewN | apply below_drew1 | refine below_set ?_ GE326.out) | exact HB.out)⟩
  · rw [if_neg c3] at H
    have c3b0 : decide (t327 < 0) = false := decide_eq_false c3
    clear c3
    replace H := Option.bind_eq_some_iff.mp H
    obtain ⟨t328, A70, H⟩ := H
    replace H : ((spec_KeysOf.f k t328).bind fun bt331 => ((laws_toTable.f k l0_0).bind fun t335 => ((impl_KeysOf.f k t335).bind fun bt339 => ((laws_eqIntS.f k bt339.1 bt331.1).bind fun t343 => (if t343 = true then (laws_FnExactKeysOf.j0 k bt331.1 bt331.2 bt339.1 bt339.2 (bt339.2 != bt331.2) l0_0 t335) else (laws_FnExactKeysOf.j0 k bt331.1 bt331.2 bt339.1 bt339.2 true l0_0 t335)))))) = some r := H
    have A7 := Aside0.mk A70
    clear A70
    replace H := Option.bind_eq_some_iff.mp H
    obtain ⟨⟨t331, t334⟩, A80, H⟩ := H
    replace H : ((laws_toTable.f k l0_0).bind fun t335 => ((impl_KeysOf.f k t335).bind fun bt339 => ((laws_eqIntS.f k bt339.1 t331).bind fun t343 => (if t343 = true then (laws_FnExactKeysOf.j0 k t331 t334 bt339.1 bt339.2 (bt339.2 != t334) l0_0 t335) else (laws_FnExactKeysOf.j0 k t331 t334 bt339.1 bt339.2 true l0_0 t335))))) = some r := H
    have A8 := Aside0.mk A80
    clear A80
    replace H := Option.bind_eq_some_iff.mp H
    obtain ⟨t335, A90, H⟩ := H
    replace H : ((impl_KeysOf.f k t335).bind fun bt339 => ((laws_eqIntS.f k bt339.1 t331).bind fun t343 => (if t343 = true then (laws_FnExactKeysOf.j0 k t331 t334 bt339.1 bt339.2 (bt339.2 != t334) l0_0 t335) else (laws_FnExactKeysOf.j0 k t331 t334 bt339.1 bt339.2 true l0_0 t335)))) = some r := H
    have A9 := Aside0.mk A90
    clear A90
    replace H := Option.bind_eq_some_iff.mp H
    obtain ⟨⟨t339, t342⟩, A100, H⟩ := H
    replace H : ((laws_eqIntS.f k t339 t331).bind fun t343 => (if t343 = true then (laws_FnExactKeysOf.j0 k t331 t334 t339 t342 (t342 != t334) l0_0 t335) else (laws_FnExactKeysOf.j0 k t331 t334 t339 t342 true l0_0 t335))) = some r := H
    have A10 := Aside0.mk A100
    clear A100
    have HC11 := Aside0.mk H
    clear H
    go_enter Try.func5, Try.ntmps5
    go_upto_region 8 with (first | ((with_reducible refine gate_dst (N := 1) rfl ?_); refine box_event ?hg (N := 1) ?hd (cs := #[.slice A0_0 l0_0.length c0_0]) (t := 24) ?hr ?_; (case hd => rfl); (case hg => rfl); (case hr => first | (go_simp; done) | (go_simp; rfl)); intro gb326 hg w12 hbox hb; have n0_ := Aside0.mk (below_step (by repeat (first | (with_reducible first | exact HB.out | apply below_alloc | apply pw_below_drewN | apply below_drew1) | exact HB.out)) hb); have n1_ := Aside0.mk (hbox); have n2_ := Aside0.mk ((by rw [hg]; exact (below_size (by repeat (first | (with_reducible first | exact HB.out | apply below_alloc | apply pw_below_drewN | apply below_drew1) | exact HB.out))) : w.heap.size ≤ gb326)); have n3_ := Aside0.mk ((by rw [hg]; exact (below_size (by repeat (first | (with_reducible first | exact HB.out | apply below_alloc | apply pw_below_drewN | apply below_drew1) | exact HB.out))) : w.heap.size ≤ gb326)); clear HB; have HB := n0_; have BK326 := n1_; have GW326 := n2_; have GE326 := n3_; clear n0_ n1_ n2_ n3_; clear hb hbox hg; have hcz13_0 : w12.cell? ⟨gb326, 0, none⟩ = some (.slice A0_0 l0_0.length c0_0) := (blk_cell BK326.out 0).trans rfl; have hfz13_0 := blk_frozen BK326.out 0) | ((with_reducible refine gate_callee (f := 11) rfl ?_); refine goesL_ (some 16) rfl rfl Try.func11 (by kernel_rfl) rfl #[.agg #[.slice A0_0 l0_0.length c0_0], .int .i64 1048576] rfl (by (try simp only [List.map_toArray, List.map_cons, List.map_nil]); first | done | rfl | (simp only [List.length_drop, List.length_take]; rfl)) ?_; (with_reducible refine (laws_szTable.calls _ _ l0_0 1048576 t327 _ ?side1 ?side2 A2.out).mono ?_); (case side1 => repeat (first | exact (Kd.C_below HR0_0.out HB.out) | (with_reducible refine Kd.C_alloc ?_ _) | (with_reducible refine Kd.C_drewN ?_ _) | (with_reducible refine Kd.C_drew ?_))); (case side2 => exact HC0_0.out); rintro e w14 ⟨rfl, hb⟩; refine ⟨_, rfl, ?_⟩; have n0_ := Aside0.mk (blk_below (g := gb326) (o := .cells #[.slice A0_0 l0_0.length c0_0] 24 (0, 0)) (by (with_reducible repeat (first | refine blk_drewN ?_ _ | refine blk_drew ?_ | refine blk_alloc ?_ _)); exact BK326.out) hb); have n1_ := Aside0.mk (below_step (by repeat (first | (with_reducible first | exact HB.out | apply below_alloc | apply pw_below_drewN | apply below_drew1 | refine below_set ?_ GE326.out) | exact HB.out)) hb); clear BK326; clear HB; have BK326 := n0_; have HB := n1_; clear n0_ n1_; (try clear hb); (try clear hb2); (try clear hk); (try clear hi); have hcz15_0 : w14.cell? ⟨gb326, 0, none⟩ = some (.slice A0_0 l0_0.length c0_0) := (blk_cell BK326.out 0).trans rfl; have hfz15_0 := blk_frozen BK326.out 0) | ((with_reducible refine gate_callee (f := 13) rfl ?_); refine goesL_ (some 21) rfl rfl Try.func13 (by kernel_rfl) rfl #[.agg #[.slice A0_0 l0_0.length c0_0]] rfl (by (try simp only [List.map_toArray, List.map_cons, List.map_nil]); first | done | rfl | (simp only [List.length_drop, List.length_take]; rfl)) ?_; (with_reducible refine (laws_toTable.calls k _ _ l0_0 t328 _ ?side1 ?side2 A7.out).mono ?_); (case side1 => repeat (first | exact (Kd.C_below HR0_0.out HB.out) | (with_reducible refine Kd.C_alloc ?_ _) | (with_reducible refine Kd.C_drewN ?_ _) | (with_reducible refine Kd.C_drew ?_))); (case side2 => exact HC0_0.out); rintro e w16 ⟨v329, rfl, ho0, hb⟩; refine ⟨_, rfl, ?_⟩; have n0_ := Aside0.mk (Kd.R_lower ho0 (below_size (by repeat (first | (with_reducible first | exact HB.out | apply below_alloc | apply pw_below_drewN | apply below_drew1 | refine below_set ?_ GE326.out) | exact HB.out)))); have n1_ := Aside0.mk (blk_below (g := gb326) (o := .cells #[.slice A0_0 l0_0.length c0_0] 24 (0, 0)) (by (with_reducible repeat (first | refine blk_drewN ?_ _ | refine blk_drew ?_ | refine blk_alloc ?_ _)); exact BK326.out) hb); have n2_ := Aside0.mk (below_step (by repeat (first | (with_reducible first | exact HB.out | apply below_alloc | apply pw_below_drewN | apply below_drew1 | refine below_set ?_ GE326.out) | exact HB.out)) hb); clear BK326; clear HB; have HO330 := n0_; have BK326 := n1_; have HB := n2_; clear n0_ n1_ n2_; (try clear hb); (try clear hb2); (try clear hk); (try clear hi); (try clear ho0); obtain ⟨Ao17, co17, eo17⟩ := Kd.R_slice HO330.out; subst eo17) | ((with_reducible refine gate_callee (f := 20) rfl ?_); refine goesL_ (some 22) rfl rfl Try.func20 (by kernel_rfl) rfl #[.agg #[.slice Ao17 t328.length co17]] rfl (by (try simp only [List.map_toArray, List.map_cons, List.map_nil]); first | done | rfl | (simp only [List.length_drop, List.length_take]; rfl)) ?_; (with_reducible refine (spec_KeysOf.calls k _ _ t328 t331 t334 _ ?side1 ?side2 A8.out).mono ?_); (case side1 => repeat (first | exact (Kd.R_reads' HO330.out).2.2 | (with_reducible refine Kd.C_alloc ?_ _) | (with_reducible refine Kd.C_drewN ?_ _) | (with_reducible refine Kd.C_drew ?_))); (case side2 => exact (Kd.R_reads' HO330.out).2.1); rintro e w18 ⟨v332, rfl, ho0, hb⟩; refine ⟨_, rfl, ?_⟩; have n0_ := Aside0.mk (Kd.R_elder' (by (with_reducible repeat (first | apply Kd.R_alloc | apply Kd.R_drewN | apply Kd.R_drew)); exact HO330.out) (Kd.R_base ho0) hb); have n1_ := Aside0.mk (Kd.R_lower (Kd.R_new' ho0 (Kd.R_lt (by (with_reducible repeat (first | apply Kd.R_alloc | apply Kd.R_drewN | apply Kd.R_drew)); exact HO330.out))) (below_size (by repeat (first | (with_reducible first | exact HB.out | apply below_alloc | apply pw_below_drewN | apply below_drew1 | refine below_set ?_ GE326.out) | exact HB.out)))); have n2_ := Aside0.mk (blk_below (g := gb326) (o := .cells #[.slice A0_0 l0_0.length c0_0] 24 (0, 0)) (by (with_reducible repeat (first | refine blk_drewN ?_ _ | refine blk_drew ?_ | refine blk_alloc ?_ _)); exact BK326.out) hb); have n3_ := Aside0.mk (below_step (by repeat (first | (with_reducible first | exact HB.out | apply below_alloc | apply pw_below_drewN | apply below_drew1 | refine below_set ?_ GE326.out) | exact HB.out)) hb); clear HO330; clear BK326; clear HB; have HO330 := n0_; have HO333 := n1_; have BK326 := n2_; have HB := n3_; clear n0_ n1_ n2_ n3_; (try clear hb); (try clear hb2); (try clear hk); (try clear hi); (try clear ho0); have hcz19_0 : w18.cell? ⟨gb326, 0, none⟩ = some (.slice A0_0 l0_0.length c0_0) := (blk_cell BK326.out 0).trans rfl; have hfz19_0 := blk_frozen BK326.out 0) | ((with_reducible refine gate_callee (f := 13) rfl ?_); refine goesL_ (some 26) rfl rfl Try.func13 (by kernel_rfl) rfl #[.agg #[.slice A0_0 l0_0.length c0_0]] rfl (by (try simp only [List.map_toArray, List.map_cons, List.map_nil]); first | done | rfl | (simp only [List.length_drop, List.length_take]; rfl)) ?_; (with_reducible refine (laws_toTable.calls k _ _ l0_0 t335 _ ?side1 ?side2 A9.out).mono ?_); (case side1 => repeat (first | exact (Kd.C_below HR0_0.out HB.out) | (with_reducible refine Kd.C_alloc ?_ _) | (with_reducible refine Kd.C_drewN ?_ _) | (with_reducible refine Kd.C_drew ?_))); (case side2 => exact HC0_0.out); rintro e w20 ⟨v336, rfl, ho0, hb⟩; refine ⟨_, rfl, ?_⟩; have n0_ := Aside0.mk (Kd.R_elder' (by (with_reducible repeat (first | apply Kd.R_alloc | apply Kd.R_drewN | apply Kd.R_drew)); exact HO330.out) (Kd.R_base ho0) hb); have n1_ := Aside0.mk (Kd.R_elder' (by (with_reducible repeat (first | apply Kd.R_alloc | apply Kd.R_drewN | apply Kd.R_drew)); exact HO333.out) (Kd.R_base ho0) hb); have n2_ := Aside0.mk (Kd.R_lower (Kd.R_new' (Kd.R_new' ho0 (Kd.R_lt (by (with_reducible repeat (first | apply Kd.R_alloc | apply Kd.R_drewN | apply Kd.R_drew)); exact HO330.out))) (Kd.R_lt (by (with_reducible repeat (first | apply Kd.R_alloc | apply Kd.R_drewN | apply Kd.R_drew)); exact HO333.out))) (below_size (by repeat (first | (with_reducible first | exact HB.out | apply below_alloc | apply pw_below_drewN | apply below_drew1 | refine below_set ?_ GE326.out) | exact HB.out)))); have n3_ := Aside0.mk (blk_below (g := gb326) (o := .cells #[.slice A0_0 l0_0.length c0_0] 24 (0, 0)) (by (with_reducible repeat (first | refine blk_drewN ?_ _ | refine blk_drew ?_ | refine blk_alloc ?_ _)); exact BK326.out) hb); have n4_ := Aside0.mk (below_step (by repeat (first | (with_reducible first | exact HB.out | apply below_alloc | apply pw_below_drewN | apply below_drew1 | refine below_set ?_ GE326.out) | exact HB.out)) hb); clear HO330; clear HO333; clear BK326; clear HB; have HO330 := n0_; have HO333 := n1_; have HO337 := n2_; have BK326 := n3_; have HB := n4_; clear n0_ n1_ n2_ n3_ n4_; (try clear hb); (try clear hb2); (try clear hk); (try clear hi); (try clear ho0)) | ((with_reducible refine gate_dst (N := 6) rfl ?_); refine box_event ?hg (N := 6) ?hd (cs := #[.slice none 0 0]) (t := 28) ?hr ?_; (case hd => rfl); (case hg => rfl); (case hr => first | (go_simp; done) | (go_simp; rfl)); intro gb338 hg w21 hbox hb; have n0_ := Aside0.mk (Kd.R_below (by (with_reducible repeat (first | apply Kd.R_alloc | apply Kd.R_drewN | apply Kd.R_drew)); exact HO330.out) hb); have n1_ := Aside0.mk (Kd.R_below (by (with_reducible repeat (first | apply Kd.R_alloc | apply Kd.R_drewN | apply Kd.R_drew)); exact HO333.out) hb); have n2_ := Aside0.mk (Kd.R_below (by (with_reducible repeat (first | apply Kd.R_alloc | apply Kd.R_drewN | apply Kd.R_drew)); exact HO337.out) hb); have n3_ := Aside0.mk (blk_below (g := gb326) (o := .cells #[.slice A0_0 l0_0.length c0_0] 24 (0, 0)) (by (with_reducible repeat (first | refine blk_drewN ?_ _ | refine blk_drew ?_ | refine blk_alloc ?_ _)); exact BK326.out) hb); have n4_ := Aside0.mk (below_step (by repeat (first | (with_reducible first | exact HB.out | apply below_alloc | apply pw_below_drewN | apply below_drew1 | refine below_set ?_ GE326.out) | exact HB.out)) hb); have n5_ := Aside0.mk (hbox); have n6_ := Aside0.mk ((by rw [hg]; exact (below_size (by repeat (first | (with_reducible first | exact HB.out | apply below_alloc | apply pw_below_drewN | apply below_drew1 | refine below_set ?_ GE326.out) | exact HB.out))) : w.heap.size ≤ gb338)); have n7_ := Aside0.mk ((by rw [hg]; exact (below_size (by repeat (first | (with_reducible first | exact HB.out | apply below_alloc | apply pw_below_drewN | apply below_drew1 | refine below_set ?_ GE326.out) | exact HB.out))) : w.heap.size ≤ gb338)); have n8_ := Aside0.mk ((by rw [hg]; exact Nat.ne_of_lt (blk_lt (g := gb326) (o := .cells #[.slice A0_0 l0_0.length c0_0] 24 (0, 0)) (by (with_reducible repeat (first | refine blk_drewN ?_ _ | refine blk_drew ?_ | refine blk_alloc ?_ _)); exact BK326.out)) : gb326 ≠ gb338)); have n9_ := Aside0.mk ((by rw [hg]; exact Nat.ne_of_gt (blk_lt (g := gb326) (o := .cells #[.slice A0_0 l0_0.length c0_0] 24 (0, 0)) (by (with_reducible repeat (first | refine blk_drewN ?_ _ | refine blk_drew ?_ | refine blk_alloc ?_ _)); exact BK326.out)) : gb338 ≠ gb326)); clear HO330; clear HO333; clear HO337; clear BK326; clear HB; have HO330 := n0_; have HO333 := n1_; have HO337 := n2_; have BK326 := n3_; have HB := n4_; have BK338 := n5_; have GW338 := n6_; have GE338 := n7_; have NB326_338 := n8_; have NB338_326 := n9_; clear n0_ n1_ n2_ n3_ n4_ n5_ n6_ n7_ n8_ n9_; clear hb hbox hg; obtain ⟨Ao22, co22, eo22⟩ := Kd.R_slice HO337.out; subst eo22; have hnb23 := NB338_326.out; have hnc23 := NB326_338.out; have hcz24_0 : w21.cell? ⟨gb338, 0, none⟩ = some (.slice none 0 0) := (blk_cell BK338.out 0).trans rfl; have hfz24_0 := blk_frozen BK338.out 0) | ((with_reducible refine gate_callee (f := 21) rfl ?_); refine goesL_ (some 29) rfl rfl Try.func21 (by kernel_rfl) rfl #[.agg #[.slice Ao22 t335.length co22]] rfl (by (try simp only [List.map_toArray, List.map_cons, List.map_nil]); first | done | rfl | (simp only [List.length_drop, List.length_take]; rfl)) ?_; (with_reducible refine (impl_KeysOf.calls k _ _ t335 t339 t342 _ ?side1 ?side2 A10.out).mono ?_); (case side1 => refine (Kd.R_reads' (e := 3) (base := w.heap.size) (ok := fun k_ => ((True ∧ some k_ ≠ (.slice Ao17 t328.length co17 : Value).ownBlock) ∧ some k_ ≠ (v332 : Value).ownBlock)) (n := t335.length) (c := co22) ?_).2.2; exact (by (with_reducible repeat (first | apply Kd.R_alloc | apply Kd.R_drewN | apply Kd.R_drew)); exact (Kd.R_mono (Kd.R_far (p := ⟨gb338, 0, none⟩) (Kd.R_types HO337.out BK338.out (by decide)) (fun _ hk => hk.2) (.slice Ao22 t335.length co22)) (fun _ h_ => h_.1)))); (case side2 => exact (Kd.R_reads' HO337.out).2.1); rintro e w25 ⟨v340, rfl, ho0, hb⟩; refine ⟨_, rfl, ?_⟩; have n0_ := Aside0.mk (Kd.R_elder' (by (with_reducible repeat (first | apply Kd.R_alloc | apply Kd.R_drewN | apply Kd.R_drew)); exact (Kd.R_mono (Kd.R_far (p := ⟨gb338, 0, none⟩) (Kd.R_types HO330.out BK338.out (by decide)) (fun _ hk => hk.2) (.slice Ao22 t335.length co22)) (fun _ h_ => h_.1))) (Kd.R_base ho0) hb); have n1_ := Aside0.mk (Kd.R_elder' (by (with_reducible repeat (first | apply Kd.R_alloc | apply Kd.R_drewN | apply Kd.R_drew)); exact (Kd.R_mono (Kd.R_far (p := ⟨gb338, 0, none⟩) (Kd.R_types HO333.out BK338.out (by decide)) (fun _ hk => hk.2) (.slice Ao22 t335.length co22)) (fun _ h_ => h_.1))) (Kd.R_base ho0) hb); have n2_ := Aside0.mk (Kd.R_elder' (by (with_reducible repeat (first | apply Kd.R_alloc | apply Kd.R_drewN | apply Kd.R_drew)); exact (Kd.R_mono (Kd.R_far (p := ⟨gb338, 0, none⟩) (Kd.R_types HO337.out BK338.out (by decide)) (fun _ hk => hk.2) (.slice Ao22 t335.length co22)) (fun _ h_ => h_.1))) (Kd.R_base ho0) hb); have n3_ := Aside0.mk (Kd.R_lower (Kd.R_new' (Kd.R_new' (Kd.R_new' ho0 (Kd.R_lt (by (with_reducible repeat (first | apply Kd.R_alloc | apply Kd.R_drewN | apply Kd.R_drew)); exact (Kd.R_mono (Kd.R_far (p := ⟨gb338, 0, none⟩) (Kd.R_types HO330.out BK338.out (by decide)) (fun _ hk => hk.2) (.slice Ao22 t335.length co22)) (fun _ h_ => h_.1))))) (Kd.R_lt (by (with_reducible repeat (first | apply Kd.R_alloc | apply Kd.R_drewN | apply Kd.R_drew)); exact (Kd.R_mono (Kd.R_far (p := ⟨gb338, 0, none⟩) (Kd.R_types HO333.out BK338.out (by decide)) (fun _ hk => hk.2) (.slice Ao22 t335.length co22)) (fun _ h_ => h_.1))))) (Kd.R_lt (by (with_reducible repeat (first | apply Kd.R_alloc | apply Kd.R_drewN | apply Kd.R_drew)); exact (Kd.R_mono (Kd.R_far (p := ⟨gb338, 0, none⟩) (Kd.R_types HO337.out BK338.out (by decide)) (fun _ hk => hk.2) (.slice Ao22 t335.length co22)) (fun _ h_ => h_.1))))) (below_size (by repeat (first | (with_reducible first | exact HB.out | apply below_alloc | apply pw_below_drewN | apply below_drew1 | refine below_set ?_ GE326.out | refine below_set ?_ GE338.out) | exact HB.out)))); have n4_ := Aside0.mk (blk_below (g := gb326) (o := .cells #[.slice A0_0 l0_0.length c0_0] 24 (0, 0)) (by (with_reducible repeat (first | refine blk_drewN ?_ _ | refine blk_drew ?_ | refine blk_alloc ?_ _)); refine blk_far ?_ NB326_338.out _; (with_reducible repeat (first | refine blk_drewN ?_ _ | refine blk_drew ?_ | refine blk_alloc ?_ _)); exact BK326.out) hb); have n5_ := Aside0.mk (blk_below (g := gb338) (o := .cells #[.slice Ao22 t335.length co22] 28 (0, 0)) (by (with_reducible repeat (first | refine blk_drewN ?_ _ | refine blk_drew ?_ | refine blk_alloc ?_ _)); refine blk_put (cs := #[.slice none 0 0]) ?_ 0 _ rfl; (with_reducible repeat (first | refine blk_drewN ?_ _ | refine blk_drew ?_ | refine blk_alloc ?_ _)); exact BK338.out) hb); have n6_ := Aside0.mk (below_step (by repeat (first | (with_reducible first | exact HB.out | apply below_alloc | apply pw_below_drewN | apply below_drew1 | refine below_set ?_ GE326.out | refine below_set ?_ GE338.out) | exact HB.out)) hb); clear HO330; clear HO333; clear HO337; clear BK326; clear BK338; clear HB; have HO330 := n0_; have HO333 := n1_; have HO337 := n2_; have HO341 := n3_; have BK326 := n4_; have BK338 := n5_; have HB := n6_; clear n0_ n1_ n2_ n3_ n4_ n5_ n6_; (try clear hb); (try clear hb2); (try clear hk); (try clear hi); (try clear ho0)))
    (try simp only [Act.put, List.setIfInBounds_toArray, List.set_cons_zero, List.set_cons_succ])
    go_cut [40] (fun v40 wc => ∃ (kq : Nat) (x40_10 : Bool), v40 = .bool x40_10 ∧ Aside0 (laws_FnExactKeysOf.j0 kq t331 t334 t339 t342 x40_10 l0_0 t335 = some r) ∧ Aside0 (kq ≤ k) ∧ Aside0 (Kd.R (Kd.int .i64) 3 wc w.heap.size (fun k_ => some k_ ≠ (v340 : Value).ownBlock ∧ some k_ ≠ ((.slice Ao22 t335.length co22) : Value).ownBlock) v332 t331) ∧ Aside0 (Kd.R (Kd.int .i64) 3 wc w.heap.size (fun k_ => some k_ ≠ (v332 : Value).ownBlock ∧ some k_ ≠ ((.slice Ao22 t335.length co22) : Value).ownBlock) v340 t339) ∧ Aside0 (Kd.R (Kd.int .i64) 3 wc w.heap.size (fun k_ => some k_ ≠ (v332 : Value).ownBlock ∧ some k_ ≠ (v340 : Value).ownBlock) (.slice Ao22 t335.length co22) t335) ∧ Aside0 (wc.heap[gb326]? = some (.cells #[(.slice A0_0 l0_0.length c0_0)] 24 (0, 0))) ∧ Aside0 (wc.heap[gb338]? = some (.cells #[(.slice Ao22 t335.length co22)] 28 (0, 0))) ∧ Aside0 (Below w.heap.size w wc))
    case first =>
      have H := HC11.out
      clear HC11
      replace H := Option.bind_eq_some_iff.mp H
      obtain ⟨t343, A260, H⟩ := H
      replace H : (if t343 = true then (laws_FnExactKeysOf.j0 k t331 t334 t339 t342 (t342 != t334) l0_0 t335) else (laws_FnExactKeysOf.j0 k t331 t334 t339 t342 true l0_0 t335)) = some r := H
      have A26 := Aside0.mk A260
      clear A260
      by_cases c27 : t343 = true
      · subst c27
        have H1 : (laws_FnExactKeysOf.j0 k t331 t334 t339 t342 (t342 != t334) l0_0 t335) = some r := by rw [if_pos rfl] at H; exact H
        clear H
        have H := H1
        clear H1
        have H' := Aside0.mk H
        clear H
        obtain ⟨Ao28, co28, eo28⟩ := Kd.R_slice HO341.out
        subst eo28
        obtain ⟨Ao29, co29, eo29⟩ := Kd.R_slice HO333.out
        subst eo29
        go_wp2_with (first | ((with_reducible refine gate_callee (f := 22) rfl ?_); refine goesL_ (some 34) rfl rfl Try.func22 (by kernel_rfl) rfl #[.slice Ao28 t339.length co28, .slice Ao29 t331.length co29] rfl (by (try simp only [List.map_toArray, List.map_cons, List.map_nil]); first | done | rfl | (simp only [List.length_drop, List.length_take]; rfl)) ?_; (with_reducible refine (laws_eqIntS.calls k _ _ t339 _ _ t331 true _ ?side1 ?side2 ?side3 ?side4 A26.out).mono ?_); (case side1 => repeat (first | exact (Kd.R_reads' HO341.out).2.2 | (with_reducible refine Kd.C_alloc ?_ _) | (with_reducible refine Kd.C_drewN ?_ _) | (with_reducible refine Kd.C_drew ?_))); (case side2 => exact (Kd.R_reads' HO341.out).2.1); (case side3 => repeat (first | exact (Kd.R_reads' HO333.out).2.2 | (with_reducible refine Kd.C_alloc ?_ _) | (with_reducible refine Kd.C_drewN ?_ _) | (with_reducible refine Kd.C_drew ?_))); (case side4 => exact (Kd.R_reads' HO333.out).2.1); rintro e w' ⟨rfl, ⟨nd, rfl⟩⟩; refine ⟨_, rfl, ?_⟩))
        go_meet
        case rel => exact ⟨_, ((t342 != t334)), (by first | rfl | (simp; done) | (simp [*]; done)), H', ⟨by first | omega | exact Nat.le_refl _⟩, ⟨by (with_reducible repeat (first | apply Kd.R_alloc | apply Kd.R_drewN | apply Kd.R_drew)); exact Kd.R_mono HO333.out (fun _ hk => ⟨hk.2, hk.1.2⟩)⟩, ⟨by (with_reducible repeat (first | apply Kd.R_alloc | apply Kd.R_drewN | apply Kd.R_drew)); exact Kd.R_mono HO341.out (fun _ hk => ⟨hk.1.2, hk.2⟩)⟩, ⟨by (with_reducible repeat (first | apply Kd.R_alloc | apply Kd.R_drewN | apply Kd.R_drew)); exact Kd.R_mono HO337.out (fun _ hk => ⟨hk.1.2, hk.2⟩)⟩, ⟨by (with_reducible repeat (first | refine blk_drewN ?_ _ | refine blk_drew ?_ | refine blk_alloc ?_ _)); exact BK326.out⟩, ⟨by (with_reducible repeat (first | refine blk_drewN ?_ _ | refine blk_drew ?_ | refine blk_alloc ?_ _)); exact BK338.out⟩, ⟨by repeat (first | (with_reducible first | exact HB.out | apply below_alloc | apply pw_below_drewN | apply below_drew1 | refine below_set ?_ GE326.out | refine below_set ?_ GE338.out) | exact HB.out)⟩⟩
      · replace c27 := Bool.eq_false_iff.mpr c27
        subst c27
        have H1 : (laws_FnExactKeysOf.j0 k t331 t334 t339 t342 true l0_0 t335) = some r := by rw [if_neg (show ¬ (false = true) by decide)] at H; exact H
        clear H
        have H := H1
        clear H1
        have H' := Aside0.mk H
        clear H
        obtain ⟨Ao30, co30, eo30⟩ := Kd.R_slice HO341.out
        subst eo30
        obtain ⟨Ao31, co31, eo31⟩ := Kd.R_slice HO333.out
        subst eo31
        go_wp2_with (first | ((with_reducible refine gate_callee (f := 22) rfl ?_); refine goesL_ (some 34) rfl rfl Try.func22 (by kernel_rfl) rfl #[.slice Ao30 t339.length co30, .slice Ao31 t331.length co31] rfl (by (try simp only [List.map_toArray, List.map_cons, List.map_nil]); first | done | rfl | (simp only [List.length_drop, List.length_take]; rfl)) ?_; (with_reducible refine (laws_eqIntS.calls k _ _ t339 _ _ t331 false _ ?side1 ?side2 ?side3 ?side4 A26.out).mono ?_); (case side1 => repeat (first | exact (Kd.R_reads' HO341.out).2.2 | (with_reducible refine Kd.C_alloc ?_ _) | (with_reducible refine Kd.C_drewN ?_ _) | (with_reducible refine Kd.C_drew ?_))); (case side2 => exact (Kd.R_reads' HO341.out).2.1); (case side3 => repeat (first | exact (Kd.R_reads' HO333.out).2.2 | (with_reducible refine Kd.C_alloc ?_ _) | (with_reducible refine Kd.C_drewN ?_ _) | (with_reducible refine Kd.C_drew ?_))); (case side4 => exact (Kd.R_reads' HO333.out).2.1); rintro e w' ⟨rfl, ⟨nd, rfl⟩⟩; refine ⟨_, rfl, ?_⟩))
        go_meet
        case rel => exact ⟨_, (true), (by first | rfl | (simp; done) | (simp [*]; done)), H', ⟨by first | omega | exact Nat.le_refl _⟩, ⟨by (with_reducible repeat (first | apply Kd.R_alloc | apply Kd.R_drewN | apply Kd.R_drew)); exact Kd.R_mono HO333.out (fun _ hk => ⟨hk.2, hk.1.2⟩)⟩, ⟨by (with_reducible repeat (first | apply Kd.R_alloc | apply Kd.R_drewN | apply Kd.R_drew)); exact Kd.R_mono HO341.out (fun _ hk => ⟨hk.1.2, hk.2⟩)⟩, ⟨by (with_reducible repeat (first | apply Kd.R_alloc | apply Kd.R_drewN | apply Kd.R_drew)); exact Kd.R_mono HO337.out (fun _ hk => ⟨hk.1.2, hk.2⟩)⟩, ⟨by (with_reducible repeat (first | refine blk_drewN ?_ _ | refine blk_drew ?_ | refine blk_alloc ?_ _)); exact BK326.out⟩, ⟨by (with_reducible repeat (first | refine blk_drewN ?_ _ | refine blk_drew ?_ | refine blk_alloc ?_ _)); exact BK338.out⟩, ⟨by repeat (first | (with_reducible first | exact HB.out | apply below_alloc | apply pw_below_drewN | apply below_drew1 | refine below_set ?_ GE326.out | refine below_set ?_ GE338.out) | exact HB.out)⟩⟩
    case rest =>
      clear HC11
      try clear c1
      try clear c2
      try clear p2
      try clear c3
      try clear c3b0
      try clear c5
      try clear c11
      try clear c13
      try clear c20
      try clear c21
      try clear c22
      try clear c23
      try clear c27
      try clear hcz13_0
      try clear hcz15_0
      try clear hcz19_0
      try clear hcz24_0
      try clear hcz5_0
      try clear hfz13_0
      try clear hfz15_0
      try clear hfz19_0
      try clear hfz24_0
      try clear hfz5_0
      obtain ⟨kq, x40_10, rfl, HA, HJ10, HO_4, HO_7, HO_339000, BK326, BK338, HB⟩ := hcut
      cases kq with
      | zero => exact absurd HA.out (by simp [laws_FnExactKeysOf.j0])
      | succ kj10 =>
        have H := HA.out
        clear HA
        simp only [laws_FnExactKeysOf.j0] at H
        by_cases c32 : x40_10 = true
        · subst c32
          have H1 : (some false) = some r := by rw [if_pos rfl] at H; exact H
          clear H
          have H := H1
          clear H1
          obtain rfl := Option.some.inj H
          go_wp2
          go_ret
          exact ⟨by first | rfl | (simp [errW_none, errW_some] <;> rfl) | (simp [*, errW_none, errW_some] <;> rfl), by repeat (first | (with_reducible first | exact HB.out | apply below_alloc | apply pw_below_drewN | apply below_drew1 | refine below_set ?_ GE326.out | refine below_set ?_ GE338.out) | exact HB.out)⟩
        · replace c32 := Bool.eq_false_iff.mpr c32
          subst c32
          have H1 : ((laws_toTable.f kj10 l0_0).bind fun t344 => ((laws_eqTable.f kj10 t335 t344).bind fun t347 => (if t347 = true then ((laws_markTable.f kj10 t335 1).bind fun bt348 => (if bt348.1 < 0 then (laws_FnExactKeysOf.j1 kj10 t331 t334 t339 true l0_0) else ((laws_eqIntS.f kj10 t339 t331).bind fun t350 => (if t350 = true then (laws_FnExactKeysOf.j1 kj10 t331 t334 t339 (t342 != t334) l0_0) else (laws_FnExactKeysOf.j1 kj10 t331 t334 t339 true l0_0))))) else (some false)))) = some r := by rw [if_neg (show ¬ (false = true) by decide)] at H; exact H
          clear H
          have H := H1
          clear H1
          replace H := Option.bind_eq_some_iff.mp H
          obtain ⟨t344, A330, H⟩ := H
          replace H : ((laws_eqTable.f kj10 t335 t344).bind fun t347 => (if t347 = true then ((laws_markTable.f kj10 t335 1).bind fun bt348 => (if bt348.1 < 0 then (laws_FnExactKeysOf.j1 kj10 t331 t334 t339 true l0_0) else ((laws_eqIntS.f kj10 t339 t331).bind fun t350 => (if t350 = true then (laws_FnExactKeysOf.j1 kj10 t331 t334 t339 (t342 != t334) l0_0) else (laws_FnExactKeysOf.j1 kj10 t331 t334 t339 true l0_0))))) else (some false))) = some r := H
          have A33 := Aside0.mk A330
          clear A330
          replace H := Option.bind_eq_some_iff.mp H
          obtain ⟨t347, A340, H⟩ := H
          replace H : (if t347 = true then ((laws_markTable.f kj10 t335 1).bind fun bt348 => (if bt348.1 < 0 then (laws_FnExactKeysOf.j1 kj10 t331 t334 t339 true l0_0) else ((laws_eqIntS.f kj10 t339 t331).bind fun t350 => (if t350 = true then (laws_FnExactKeysOf.j1 kj10 t331 t334 t339 (t342 != t334) l0_0) else (laws_FnExactKeysOf.j1 kj10 t331 t334 t339 true l0_0))))) else (some false)) = some r := H
          have A34 := Aside0.mk A340
          clear A340
          by_cases c35 : t347 = true
          · subst c35
            have H1 : ((laws_markTable.f kj10 t335 1).bind fun bt348 => (if bt348.1 < 0 then (laws_FnExactKeysOf.j1 kj10 t331 t334 t339 true l0_0) else ((laws_eqIntS.f kj10 t339 t331).bind fun t350 => (if t350 = true then (laws_FnExactKeysOf.j1 kj10 t331 t334 t339 (t342 != t334) l0_0) else (laws_FnExactKeysOf.j1 kj10 t331 t334 t339 true l0_0))))) = some r := by rw [if_pos rfl] at H; exact H
            clear H
            have H := H1
            clear H1
            replace H := Option.bind_eq_some_iff.mp H
            obtain ⟨⟨t348, t349⟩, A360, H⟩ := H
            replace H : (if t348 < 0 then (laws_FnExactKeysOf.j1 kj10 t331 t334 t339 true l0_0) else ((laws_eqIntS.f kj10 t339 t331).bind fun t350 => (if t350 = true then (laws_FnExactKeysOf.j1 kj10 t331 t334 t339 (t342 != t334) l0_0) else (laws_FnExactKeysOf.j1 kj10 t331 t334 t339 true l0_0)))) = some r := H
            have A36 := Aside0.mk A360
            clear A360
            have HC37 := Aside0.mk H
            clear H
            try go_wp2
            have n0_ := Aside0.mk (Kd.R_drew HO_4.out)
            have n1_ := Aside0.mk (Kd.R_drew HO_7.out)
            have n2_ := Aside0.mk (Kd.R_drew HO_339000.out)
            have n3_ := Aside0.mk (blk_drew BK326.out)
            have n4_ := Aside0.mk (blk_drew BK338.out)
            have n5_ := Aside0.mk (below_drew1 HB.out)
            clear HO_4
            clear HO_7
            clear HO_339000
            clear BK326
            clear BK338
            clear HB
            have HO_4 := n0_
            have HO_7 := n1_
            have HO_339000 := n2_
            have BK326 := n3_
            have BK338 := n4_
            have HB := n5_
            clear n0_ n1_ n2_ n3_ n4_ n5_
            refine start_ (n := 5) (S := fun w' => w'.cell? ⟨gb338, 0, none⟩ = some (.slice Ao22 t335.length co22) ∧ w'.cell? ⟨gb326, 0, none⟩ = some (.slice A0_0 l0_0.length c0_0)) (ds := []) #[false, false, false, false, false] (by kernel_rfl) rfl rfl ⟨(blk_cell BK338.out 0).trans rfl, (blk_cell BK326.out 0).trans rfl⟩ (fun hHeld => ?_)
            generalize wc.drew = w38 at HO_4 HO_7 HO_339000 BK326 BK338 HB hHeld ⊢
            refine take_ (i := 0) (N := some 41) (v := ?_) (a' := ?_) #[true, false, false, false, false] rfl rfl (by kernel_rfl) (fun _ _ _ h => h) (Or.inl ⟨by rfl, ?_⟩) hHeld ?_ ?_
            rotate_left
            · rintro w' ⟨s0, s1⟩
              go_simp
              with_reducible rfl
            rotate_left
            · simp only [Act.put, List.setIfInBounds_toArray, List.set_cons_zero, List.set_cons_succ, i64_w, i32_w]
              rfl
            refine take_ (i := 1) (N := some 42) (v := ?_) (a' := ?_) #[true, true, false, false, false] rfl rfl (by kernel_rfl) (fun _ _ _ h => h) (Or.inl ⟨by rfl, ?_⟩) hHeld ?_ ?_
            rotate_left
            · rintro w' ⟨s0, s1⟩
              go_simp
              with_reducible rfl
            rotate_left
            · simp only [Act.put, List.setIfInBounds_toArray, List.set_cons_zero, List.set_cons_succ, i64_w, i32_w]
              rfl
            refine one_ (i := 2) (N := some 43) #[true, true, true, false, false] rfl rfl (by kernel_rfl) (by decide) (fun K hK => ?_)
            refine goes_ Try.func13 (by kernel_rfl) rfl #[.agg #[.slice A0_0 l0_0.length c0_0]] (by rfl) rfl rfl (by (try simp only [List.map_toArray, List.map_cons, List.map_nil]); first | done | rfl | (simp only [List.length_drop, List.length_take]; rfl)) ?_
            with_reducible refine (laws_toTable.calls kj10 _ _ l0_0 t344 _ ?side1 ?side2 A33.out).mono ?_
            (case side1 => repeat (first | exact (Kd.C_below HR0_0.out HB.out) | (with_reducible refine Kd.C_alloc ?_ _) | (with_reducible refine Kd.C_drewN ?_ _) | (with_reducible refine Kd.C_drew ?_)))
            (case side2 => exact HC0_0.out)
            rintro e w39 ⟨v345, rfl, ho0, hb⟩
            refine ⟨_, rfl, ?_⟩
            have n0_ := Aside0.mk (Kd.R_elder' (by (with_reducible repeat (first | apply Kd.R_alloc | apply Kd.R_drewN | apply Kd.R_drew)); exact HO_4.out) (Kd.R_base ho0) hb)
            have n1_ := Aside0.mk (Kd.R_elder' (by (with_reducible repeat (first | apply Kd.R_alloc | apply Kd.R_drewN | apply Kd.R_drew)); exact HO_7.out) (Kd.R_base ho0) hb)
            have n2_ := Aside0.mk (Kd.R_elder' (by (with_reducible repeat (first | apply Kd.R_alloc | apply Kd.R_drewN | apply Kd.R_drew)); exact HO_339000.out) (Kd.R_base ho0) hb)
            have n3_ := Aside0.mk (Kd.R_lower (Kd.R_new' (Kd.R_new' (Kd.R_new' ho0 (Kd.R_lt (by (with_reducible repeat (first | apply Kd.R_alloc | apply Kd.R_drewN | apply Kd.R_drew)); exact HO_4.out))) (Kd.R_lt (by (with_reducible repeat (first | apply Kd.R_alloc | apply Kd.R_drewN | apply Kd.R_drew)); exact HO_7.out))) (Kd.R_lt (by (with_reducible repeat (first | apply Kd.R_alloc | apply Kd.R_drewN | apply Kd.R_drew)); exact HO_339000.out))) (below_size (by repeat (first | (with_reducible first | exact HB.out | apply below_alloc | apply pw_below_drewN | apply below_drew1 | refine below_set ?_ GE326.out | refine below_set ?_ GE338.out) | exact HB.out))))
            have n4_ := Aside0.mk (blk_below (g := gb326) (o := .cells #[.slice A0_0 l0_0.length c0_0] 24 (0, 0)) (by (with_reducible repeat (first | refine blk_drewN ?_ _ | refine blk_drew ?_ | refine blk_alloc ?_ _)); exact BK326.out) hb)
            have n5_ := Aside0.mk (blk_below (g := gb338) (o := .cells #[.slice Ao22 t335.length co22] 28 (0, 0)) (by (with_reducible repeat (first | refine blk_drewN ?_ _ | refine blk_drew ?_ | refine blk_alloc ?_ _)); exact BK338.out) hb)
            have n6_ := Aside0.mk (below_step (by repeat (first | (with_reducible first | exact HB.out | apply below_alloc | apply pw_below_drewN | apply below_drew1 | refine below_set ?_ GE326.out | refine below_set ?_ GE338.out) | exact HB.out)) hb)
            clear HO_4
            clear HO_7
            clear HO_339000
            clear BK326
            clear BK338
            clear HB
            have HO_4 := n0_
            have HO_7 := n1_
            have HO_339000 := n2_
            have HO346 := n3_
            have BK326 := n4_
            have BK338 := n5_
            have HB := n6_
            clear n0_ n1_ n2_ n3_ n4_ n5_ n6_
            (try clear hb)
            (try clear hb2)
            (try clear hk)
            (try clear hi)
            (try clear ho0)
            obtain ⟨Ao40, co40, eo40⟩ := Kd.R_slice HO346.out
            (first | subst eo40 | (injection eo40 with f1_ f2_ f3_; have f4_ := f1_.symm; have f5_ := f3_.symm; clear f1_ f2_ f3_; subst f4_; subst f5_))
            refine hK.out _ _ ⟨(blk_cell BK338.out 0).trans rfl, (blk_cell BK326.out 0).trans rfl⟩ (fun hHeld => ?_)
            clear hK K
            refine norm_ (a' := ?_) ?_ ?_
            rotate_left
            · show Act.put _ (some 43) _ = _
              simp only [Act.put, List.setIfInBounds_toArray, List.set_cons_zero, List.set_cons_succ, i64_w, i32_w]
              rfl
            refine one_ (i := 3) (N := some 44) #[true, true, true, true, false] rfl rfl (by kernel_rfl) (by decide) (fun K hK => ?_)
            refine goes_ Try.func15 (by kernel_rfl) rfl #[.agg #[.slice Ao22 t335.length co22], .agg #[.slice Ao40 t344.length co40]] (by rfl) rfl rfl (by (try simp only [List.map_toArray, List.map_cons, List.map_nil]); first | done | rfl | (simp only [List.length_drop, List.length_take]; rfl)) ?_
            with_reducible refine (laws_eqTable.calls kj10 _ _ t335 _ _ t344 true _ ?side1 ?side2 ?side3 ?side4 A34.out).mono ?_
            (case side1 => repeat (first | exact (Kd.R_reads' HO_339000.out).2.2 | (with_reducible refine Kd.C_alloc ?_ _) | (with_reducible refine Kd.C_drewN ?_ _) | (with_reducible refine Kd.C_drew ?_)))
            (case side2 => exact (Kd.R_reads' HO_339000.out).2.1)
            (case side3 => repeat (first | exact (Kd.R_reads' HO346.out).2.2 | (with_reducible refine Kd.C_alloc ?_ _) | (with_reducible refine Kd.C_drewN ?_ _) | (with_reducible refine Kd.C_drew ?_)))
            (case side4 => exact (Kd.R_reads' HO346.out).2.1)
            rintro e w41 ⟨rfl, hb⟩
            refine ⟨_, rfl, ?_⟩
            have n0_ := Aside0.mk (Kd.R_below (by (with_reducible repeat (first | apply Kd.R_alloc | apply Kd.R_drewN | apply Kd.R_drew)); exact HO_4.out) hb)
            have n1_ := Aside0.mk (Kd.R_below (by (with_reducible repeat (first | apply Kd.R_alloc | apply Kd.R_drewN | apply Kd.R_drew)); exact HO_7.out) hb)
            have n2_ := Aside0.mk (Kd.R_below (by (with_reducible repeat (first | apply Kd.R_alloc | apply Kd.R_drewN | apply Kd.R_drew)); exact HO_339000.out) hb)
            have n3_ := Aside0.mk (Kd.R_below (by (with_reducible repeat (first | apply Kd.R_alloc | apply Kd.R_drewN | apply Kd.R_drew)); exact HO346.out) hb)
            have n4_ := Aside0.mk (blk_below (g := gb326) (o := .cells #[.slice A0_0 l0_0.length c0_0] 24 (0, 0)) (by (with_reducible repeat (first | refine blk_drewN ?_ _ | refine blk_drew ?_ | refine blk_alloc ?_ _)); exact BK326.out) hb)
            have n5_ := Aside0.mk (blk_below (g := gb338) (o := .cells #[.slice Ao22 t335.length co22] 28 (0, 0)) (by (with_reducible repeat (first | refine blk_drewN ?_ _ | refine blk_drew ?_ | refine blk_alloc ?_ _)); exact BK338.out) hb)
            have n6_ := Aside0.mk (below_step (by repeat (first | (with_reducible first | exact HB.out | apply below_alloc | apply pw_below_drewN | apply below_drew1 | refine below_set ?_ GE326.out | refine below_set ?_ GE338.out) | exact HB.out)) hb)
            clear HO_4
            clear HO_7
            clear HO_339000
            clear HO346
            clear BK326
            clear BK338
            clear HB
            have HO_4 := n0_
            have HO_7 := n1_
            have HO_339000 := n2_
            have HO346 := n3_
            have BK326 := n4_
            have BK338 := n5_
            have HB := n6_
            clear n0_ n1_ n2_ n3_ n4_ n5_ n6_
            (try clear hb)
            (try clear hb2)
            (try clear hk)
            (try clear hi)
            refine hK.out _ _ ⟨(blk_cell BK338.out 0).trans rfl, (blk_cell BK326.out 0).trans rfl⟩ (fun hHeld => ?_)
            clear hK K
            refine norm_ (a' := ?_) ?_ ?_
            rotate_left
            · show Act.put _ (some 44) _ = _
              simp only [Act.put, List.setIfInBounds_toArray, List.set_cons_zero, List.set_cons_succ, i64_w, i32_w]
              rfl
            refine pure_ (i := 4) (N := some 45) (v := ?_) (a' := ?_) #[true, true, true, true, true] rfl rfl (by kernel_rfl) (fun _ _ _ h => h) (Or.inl ⟨by rfl, ?_⟩) ?_ ?_
            rotate_left
            · intro w'
              go_simp
              with_reducible rfl
            rotate_left
            · simp only [Act.put, List.setIfInBounds_toArray, List.set_cons_zero, List.set_cons_succ, i64_w, i32_w]
              rfl
            refine done_ (by kernel_rfl) ?_
            have hnb42 := NB338_326.out
            have hnc42 := NB326_338.out
            have hcz43_0 : w41.cell? ⟨gb338, 0, none⟩ = some (.slice Ao22 t335.length co22) := (blk_cell BK338.out 0).trans rfl
            have hfz43_0 := blk_frozen BK338.out 0
            go_upto_region 14 with (first | ((with_reducible refine gate_callee (f := 18) rfl ?_); refine goesL_ (some 48) rfl rfl Try.func18 (by kernel_rfl) rfl #[.agg #[.slice Ao22 t335.length co22], .int .i64 1] rfl (by (try simp only [List.map_toArray, List.map_cons, List.map_nil]); first | done | rfl | (simp only [List.length_drop, List.length_take]; rfl)) ?_; (with_reducible refine (laws_markTable.calls kj10 (fun k_ => some k_ = (.slice Ao22 t335.length co22 : Value).ownBlock) (.slice Ao22 t335.length co22) t335 1 t348 t349 w _ ?side1 ?side2 A36.out).mono ?_); (case side1 => repeat (first | (with_reducible first | exact HB.out | apply below_alloc | apply pw_below_drewN | apply below_drew1 | refine below_set ?_ GE326.out | refine below_set ?_ GE338.out) | exact HB.out)); (case side2 => exact Kd.R_tight rfl HO_339000.out); rintro e w44 ⟨rfl, hy0, hb, hkp⟩; refine ⟨_, rfl, ?_⟩; have n0_ := Aside0.mk (Kd.R_mono (ok' := fun k_ => some k_ ≠ (v340 : Value).ownBlock ∧ some k_ ≠ (.slice Ao22 t335.length co22 : Value).ownBlock ∧ some k_ ≠ (.slice Ao40 t344.length co40 : Value).ownBlock) (Kd.R_keptB (HO_4.out) hkp (fun k_ hk_ hs_ => (hk_.1.2) hs_)) (fun k_ hk_ => ⟨hk_.1.1.1, hk_.1.1.2, hk_.1.2⟩)); have n1_ := Aside0.mk (Kd.R_mono (ok' := fun k_ => some k_ ≠ (v332 : Value).ownBlock ∧ some k_ ≠ (.slice Ao22 t335.length co22 : Value).ownBlock ∧ some k_ ≠ (.slice Ao40 t344.length co40 : Value).ownBlock) (Kd.R_keptB (HO_7.out) hkp (fun k_ hk_ hs_ => (hk_.1.2) hs_)) (fun k_ hk_ => ⟨hk_.1.1.1, hk_.1.1.2, hk_.1.2⟩)); have n2_ := Aside0.mk (Kd.R_reok rfl hy0 (fun k_ e_ => HO_339000.out.1 k_ e_)); have n3_ := Aside0.mk (blk_kept (by (with_reducible repeat (first | refine blk_drewN ?_ _ | refine blk_drew ?_ | refine blk_alloc ?_ _)); exact BK326.out) hkp (fun hs_ => (fun e_ => (Kd.R_ne HO_339000.out BK326.out (by decide)) e_) hs_)); have n4_ := Aside0.mk (blk_kept (by (with_reducible repeat (first | refine blk_drewN ?_ _ | refine blk_drew ?_ | refine blk_alloc ?_ _)); exact BK338.out) hkp (fun hs_ => (fun e_ => (Kd.R_ne HO_339000.out BK338.out (by decide)) e_) hs_)); have n5_ := Aside0.mk (Kd.R_mono (ok' := fun k_ => some k_ ≠ (v332 : Value).ownBlock ∧ some k_ ≠ (v340 : Value).ownBlock ∧ some k_ ≠ (.slice Ao22 t335.length co22 : Value).ownBlock) (Kd.R_keptB (HO346.out) hkp (fun k_ hk_ hs_ => (hk_.2) hs_)) (fun k_ hk_ => ⟨hk_.1.1.1.2, hk_.1.1.2, hk_.1.2⟩)); have n6_ := Aside0.mk (hb); clear HO_4; clear HO_7; clear HO_339000; clear BK326; clear BK338; clear HO346; clear HB; have HO_4 := n0_; have HO_7 := n1_; have HO_339000 := n2_; have BK326 := n3_; have BK338 := n4_; have HO346 := n5_; have HB := n6_; clear n0_ n1_ n2_ n3_ n4_ n5_ n6_; (try clear hb); (try clear hkp); (try clear hy0)))
            (try simp only [Act.put, List.setIfInBounds_toArray, List.set_cons_zero, List.set_cons_succ])
            go_cut [61] (fun v61 wc => ∃ (kq : Nat) (x61_36 : Bool), v61 = .bool x61_36 ∧ Aside0 (laws_FnExactKeysOf.j1 kq t331 t334 t339 x61_36 l0_0 = some r) ∧ Aside0 (kq ≤ kj10) ∧ Aside0 (Kd.R (Kd.int .i64) 3 wc w.heap.size (fun k_ => some k_ ≠ (v340 : Value).ownBlock ∧ some k_ ≠ ((.slice Ao22 t335.length co22) : Value).ownBlock) v332 t331) ∧ Aside0 (Kd.R (Kd.int .i64) 3 wc w.heap.size (fun k_ => some k_ ≠ (v332 : Value).ownBlock ∧ some k_ ≠ ((.slice Ao22 t335.length co22) : Value).ownBlock) v340 t339) ∧ Aside0 (Kd.R (Kd.int .i64) 3 wc w.heap.size (fun k_ => some k_ ≠ (v332 : Value).ownBlock ∧ some k_ ≠ (v340 : Value).ownBlock) (.slice Ao22 t335.length co22) t349) ∧ Aside0 (wc.heap[gb326]? = some (.cells #[(.slice A0_0 l0_0.length c0_0)] 24 (0, 0))) ∧ Aside0 (wc.heap[gb338]? = some (.cells #[(.slice Ao22 t335.length co22)] 28 (0, 0))) ∧ Aside0 (Below w.heap.size w wc))
            case first =>
              have H := HC37.out
              clear HC37
              by_cases c45 : t348 < 0
              · rw [if_pos c45] at H
                have c45b0 : decide (t348 < 0) = true := decide_eq_true c45
                clear c45
                (first | rw [c45b0] | (simp only [i64_w, i32_w]; rw [c45b0]) | skip)
                have H' := Aside0.mk H
                clear H
                go_wp2
                go_meet
                case rel => exact ⟨_, (true), (by first | rfl | (simp; done) | (simp [*]; done)), H', ⟨by have := HJ10.out; first | omega | exact Nat.le_refl _⟩, ⟨by (with_reducible repeat (first | apply Kd.R_alloc | apply Kd.R_drewN | apply Kd.R_drew)); exact Kd.R_mono HO_4.out (fun _ hk => ⟨hk.1, hk.2.1⟩)⟩, ⟨by (with_reducible repeat (first | apply Kd.R_alloc | apply Kd.R_drewN | apply Kd.R_drew)); exact Kd.R_mono HO_7.out (fun _ hk => ⟨hk.1, hk.2.1⟩)⟩, ⟨by (with_reducible repeat (first | apply Kd.R_alloc | apply Kd.R_drewN | apply Kd.R_drew)); exact Kd.R_mono HO_339000.out (fun _ hk => ⟨hk.1.1, hk.1.2⟩)⟩, ⟨by (with_reducible repeat (first | refine blk_drewN ?_ _ | refine blk_drew ?_ | refine blk_alloc ?_ _)); exact BK326.out⟩, ⟨by (with_reducible repeat (first | refine blk_drewN ?_ _ | refine blk_drew ?_ | refine blk_alloc ?_ _)); exact BK338.out⟩, ⟨by repeat (first | (with_reducible first | exact HB.out | apply below_alloc | apply pw_below_drewN | apply below_drew1 | refine below_set ?_ GE326.out | refine below_set ?_ GE338.out) | exact HB.out)⟩⟩
              · rw [if_neg c45] at H
                have c45b0 : decide (t348 < 0) = false := decide_eq_false c45
                clear c45
                (first | rw [c45b0] | (simp only [i64_w, i32_w]; rw [c45b0]) | skip)
                replace H := Option.bind_eq_some_iff.mp H
                obtain ⟨t350, A460, H⟩ := H
                replace H : (if t350 = true then (laws_FnExactKeysOf.j1 kj10 t331 t334 t339 (t342 != t334) l0_0) else (laws_FnExactKeysOf.j1 kj10 t331 t334 t339 true l0_0)) = some r := H
                have A46 := Aside0.mk A460
                clear A460
                by_cases c47 : t350 = true
                · subst c47
                  have H1 : (laws_FnExactKeysOf.j1 kj10 t331 t334 t339 (t342 != t334) l0_0) = some r := by rw [if_pos rfl] at H; exact H
                  clear H
                  have H := H1
                  clear H1
                  have H' := Aside0.mk H
                  clear H
                  obtain ⟨Ao48, co48, eo48⟩ := Kd.R_slice HO_7.out
                  subst eo48
                  obtain ⟨Ao49, co49, eo49⟩ := Kd.R_slice HO_4.out
                  subst eo49
                  go_wp2_with (first | (go_at_call 22; (with_reducible refine (laws_eqIntS.calls kj10 _ _ t339 _ _ t331 true _ ?side1 ?side2 ?side3 ?side4 A46.out).mono ?_); (case side1 => repeat (first | exact (Kd.R_reads' HO_7.out).2.2 | (with_reducible refine Kd.C_alloc ?_ _) | (with_reducible refine Kd.C_drewN ?_ _) | (with_reducible refine Kd.C_drew ?_))); (case side2 => exact (Kd.R_reads' HO_7.out).2.1); (case side3 => repeat (first | exact (Kd.R_reads' HO_4.out).2.2 | (with_reducible refine Kd.C_alloc ?_ _) | (with_reducible refine Kd.C_drewN ?_ _) | (with_reducible refine Kd.C_drew ?_))); (case side4 => exact (Kd.R_reads' HO_4.out).2.1); rintro e w' ⟨rfl, ⟨nd, rfl⟩⟩))
                  go_meet
                  case rel => exact ⟨_, ((t342 != t334)), (by first | rfl | (simp; done) | (simp [*]; done)), H', ⟨by have := HJ10.out; first | omega | exact Nat.le_refl _⟩, ⟨by (with_reducible repeat (first | apply Kd.R_alloc | apply Kd.R_drewN | apply Kd.R_drew)); exact Kd.R_mono HO_4.out (fun _ hk => ⟨hk.1, hk.2.1⟩)⟩, ⟨by (with_reducible repeat (first | apply Kd.R_alloc | apply Kd.R_drewN | apply Kd.R_drew)); exact Kd.R_mono HO_7.out (fun _ hk => ⟨hk.1, hk.2.1⟩)⟩, ⟨by (with_reducible repeat (first | apply Kd.R_alloc | apply Kd.R_drewN | apply Kd.R_drew)); exact Kd.R_mono HO_339000.out (fun _ hk => ⟨hk.1.1, hk.1.2⟩)⟩, ⟨by (with_reducible repeat (first | refine blk_drewN ?_ _ | refine blk_drew ?_ | refine blk_alloc ?_ _)); exact BK326.out⟩, ⟨by (with_reducible repeat (first | refine blk_drewN ?_ _ | refine blk_drew ?_ | refine blk_alloc ?_ _)); exact BK338.out⟩, ⟨by repeat (first | (with_reducible first | exact HB.out | apply below_alloc | apply pw_below_drewN | apply below_drew1 | refine below_set ?_ GE326.out | refine below_set ?_ GE338.out) | exact HB.out)⟩⟩
                · replace c47 := Bool.eq_false_iff.mpr c47
                  subst c47
                  have H1 : (laws_FnExactKeysOf.j1 kj10 t331 t334 t339 true l0_0) = some r := by rw [if_neg (show ¬ (false = true) by decide)] at H; exact H
                  clear H
                  have H := H1
                  clear H1
                  have H' := Aside0.mk H
                  clear H
                  obtain ⟨Ao50, co50, eo50⟩ := Kd.R_slice HO_7.out
                  subst eo50
                  obtain ⟨Ao51, co51, eo51⟩ := Kd.R_slice HO_4.out
                  subst eo51
                  go_wp2_with (first | (go_at_call 22; (with_reducible refine (laws_eqIntS.calls kj10 _ _ t339 _ _ t331 false _ ?side1 ?side2 ?side3 ?side4 A46.out).mono ?_); (case side1 => repeat (first | exact (Kd.R_reads' HO_7.out).2.2 | (with_reducible refine Kd.C_alloc ?_ _) | (with_reducible refine Kd.C_drewN ?_ _) | (with_reducible refine Kd.C_drew ?_))); (case side2 => exact (Kd.R_reads' HO_7.out).2.1); (case side3 => repeat (first | exact (Kd.R_reads' HO_4.out).2.2 | (with_reducible refine Kd.C_alloc ?_ _) | (with_reducible refine Kd.C_drewN ?_ _) | (with_reducible refine Kd.C_drew ?_))); (case side4 => exact (Kd.R_reads' HO_4.out).2.1); rintro e w' ⟨rfl, ⟨nd, rfl⟩⟩))
                  go_meet
                  case rel => exact ⟨_, (true), (by first | rfl | (simp; done) | (simp [*]; done)), H', ⟨by have := HJ10.out; first | omega | exact Nat.le_refl _⟩, ⟨by (with_reducible repeat (first | apply Kd.R_alloc | apply Kd.R_drewN | apply Kd.R_drew)); exact Kd.R_mono HO_4.out (fun _ hk => ⟨hk.1, hk.2.1⟩)⟩, ⟨by (with_reducible repeat (first | apply Kd.R_alloc | apply Kd.R_drewN | apply Kd.R_drew)); exact Kd.R_mono HO_7.out (fun _ hk => ⟨hk.1, hk.2.1⟩)⟩, ⟨by (with_reducible repeat (first | apply Kd.R_alloc | apply Kd.R_drewN | apply Kd.R_drew)); exact Kd.R_mono HO_339000.out (fun _ hk => ⟨hk.1.1, hk.1.2⟩)⟩, ⟨by (with_reducible repeat (first | refine blk_drewN ?_ _ | refine blk_drew ?_ | refine blk_alloc ?_ _)); exact BK326.out⟩, ⟨by (with_reducible repeat (first | refine blk_drewN ?_ _ | refine blk_drew ?_ | refine blk_alloc ?_ _)); exact BK338.out⟩, ⟨by repeat (first | (with_reducible first | exact HB.out | apply below_alloc | apply pw_below_drewN | apply below_drew1 | refine below_set ?_ GE326.out | refine below_set ?_ GE338.out) | exact HB.out)⟩⟩
            case rest =>
              clear HC37
              try clear c1
              try clear c2
              try clear p2
              try clear c3
              try clear c3b0
              try clear c4
              try clear c5
              try clear c11
              try clear c13
              try clear c15
              try clear c18
              try clear c20
              try clear c21
              try clear c22
              try clear c23
              try clear c27
              try clear c32
              try clear c35
              try clear c42
              try clear c45
              try clear c45b0
              try clear c47
              try clear hcz13_0
              try clear hcz15_0
              try clear hcz19_0
              try clear hcz24_0
              try clear hcz43_0
              try clear hcz5_0
              try clear hfz13_0
              try clear hfz15_0
              try clear hfz19_0
              try clear hfz24_0
              try clear hfz43_0
              try clear hfz5_0
              try clear p2
              obtain ⟨kq, x61_36, rfl, HA, HJ36, HO_4, HO_7, HO_339000, BK326, BK338, HB⟩ := hcut
              have hl339000_36 := (Kd.R_reads' HO_339000.out).1
              rw [hl339000_36] at HO_339000
              (try simp only [hl339000_36])
              (try simp only [hl339000_36] at BK326)
              (try simp only [hl339000_36] at BK338)
              (try simp only [hl339000_36] at HO_4)
              (try simp only [hl339000_36] at HO_7)
              cases kq with
              | zero => exact absurd HA.out (by simp [laws_FnExactKeysOf.j1])
              | succ kj36 =>
                have H := HA.out
                clear HA
                simp only [laws_FnExactKeysOf.j1] at H
                by_cases c52 : x61_36 = true
                · subst c52
                  have H1 : (some false) = some r := by rw [if_pos rfl] at H; exact H
                  clear H
                  have H := H1
                  clear H1
                  obtain rfl := Option.some.inj H
                  go_wp2
                  go_ret
                  exact ⟨by first | rfl | (simp [errW_none, errW_some] <;> rfl) | (simp [*, errW_none, errW_some] <;> rfl), by repeat (first | (with_reducible first | exact HB.out | apply below_alloc | apply pw_below_drewN | apply below_drew1 | refine below_set ?_ GE326.out | refine below_set ?_ GE338.out) | exact HB.out)⟩
                · replace c52 := Bool.eq_false_iff.mpr c52
                  subst c52
                  have H1 : ((laws_markIntS.f kj36 t339 1).bind fun bt351 => ((laws_heldIntS.f kj36 bt351.2 1).bind fun t353 => (if t353 < 0 then (some false) else (if t353 = bt351.1 then ((laws_toTable.f kj36 l0_0).bind fun t354 => ((impl_KeysOf.f kj36 t354).bind fun bt357 => ((laws_eqIntS.f kj36 bt357.1 t331).bind fun t361 => (if t361 = true then (laws_FnExactKeysOf.j2 kj36 bt351.2 bt351.1 (bt357.2 != t334)) else (laws_FnExactKeysOf.j2 kj36 bt351.2 bt351.1 true))))) else (some false))))) = some r := by rw [if_neg (show ¬ (false = true) by decide)] at H; exact H
                  clear H
                  have H := H1
                  clear H1
                  replace H := Option.bind_eq_some_iff.mp H
                  obtain ⟨⟨t351, t352⟩, A530, H⟩ := H
                  replace H : ((laws_heldIntS.f kj36 t352 1).bind fun t353 => (if t353 < 0 then (some false) else (if t353 = t351 then ((laws_toTable.f kj36 l0_0).bind fun t354 => ((impl_KeysOf.f kj36 t354).bind fun bt357 => ((laws_eqIntS.f kj36 bt357.1 t331).bind fun t361 => (if t361 = true then (laws_FnExactKeysOf.j2 kj36 t352 t351 (bt357.2 != t334)) else (laws_FnExactKeysOf.j2 kj36 t352 t351 true))))) else (some false)))) = some r := H
                  have A53 := Aside0.mk A530
                  clear A530
                  replace H := Option.bind_eq_some_iff.mp H
                  obtain ⟨t353, A540, H⟩ := H
                  replace H : (if t353 < 0 then (some false) else (if t353 = t351 then ((laws_toTable.f kj36 l0_0).bind fun t354 => ((impl_KeysOf.f kj36 t354).bind fun bt357 => ((laws_eqIntS.f kj36 bt357.1 t331).bind fun t361 => (if t361 = true then (laws_FnExactKeysOf.j2 kj36 t352 t351 (bt357.2 != t334)) else (laws_FnExactKeysOf.j2 kj36 t352 t351 true))))) else (some false))) = some r := H
                  have A54 := Aside0.mk A540
                  clear A540
                  by_cases c55 : t353 < 0
                  · rw [if_pos c55] at H
                    have c55b0 : decide (t353 < 0) = true := decide_eq_true c55
                    clear c55
                    obtain rfl := Option.some.inj H
                    obtain ⟨Ao56, co56, eo56⟩ := Kd.R_slice HO_7.out
                    subst eo56
                    go_wp2_with (first | ((with_reducible refine gate_callee (f := 23) rfl ?_); refine goesL_ (some 64) rfl rfl Try.func23 (by kernel_rfl) rfl #[.slice Ao56 t339.length co56, .int .i64 1] rfl (by (try simp only [List.map_toArray, List.map_cons, List.map_nil]); first | done | rfl | (simp only [List.length_drop, List.length_take]; rfl)) ?_; (with_reducible refine (laws_markIntS.calls kj36 (fun k_ => some k_ = (.slice Ao56 t339.length co56 : Value).ownBlock) (.slice Ao56 t339.length co56) t339 1 t351 t352 w _ ?side1 ?side2 A53.out).mono ?_); (case side1 => repeat (first | (with_reducible first | exact HB.out | apply below_alloc | apply pw_below_drewN | apply below_drew1 | refine below_set ?_ GE326.out | refine below_set ?_ GE338.out) | exact HB.out)); (case side2 => exact Kd.R_tight rfl HO_7.out); rintro e w57 ⟨rfl, hy0, hb, hkp⟩; refine ⟨_, rfl, ?_⟩; have n0_ := Aside0.mk (Kd.R_mono (ok' := fun k_ => some k_ ≠ (.slice Ao56 t339.length co56 : Value).ownBlock ∧ some k_ ≠ (.slice Ao22 t349.length co22 : Value).ownBlock) (Kd.R_keptB (HO_4.out) hkp (fun k_ hk_ hs_ => (hk_.1) hs_)) (fun k_ hk_ => ⟨hk_.1.1, hk_.1.2⟩)); have n1_ := Aside0.mk (Kd.R_reok rfl hy0 (fun k_ e_ => HO_7.out.1 k_ e_)); have n2_ := Aside0.mk (Kd.R_mono (ok' := fun k_ => some k_ ≠ (v332 : Value).ownBlock ∧ some k_ ≠ (.slice Ao56 t339.length co56 : Value).ownBlock) (Kd.R_keptB (HO_339000.out) hkp (fun k_ hk_ hs_ => (hk_.2) hs_)) (fun k_ hk_ => ⟨hk_.1.1, hk_.1.2⟩)); have n3_ := Aside0.mk (blk_kept (by (with_reducible repeat (first | refine blk_drewN ?_ _ | refine blk_drew ?_ | refine blk_alloc ?_ _)); exact BK326.out) hkp (fun hs_ => (fun e_ => (Kd.R_ne HO_7.out BK326.out (by decide)) e_) hs_)); have n4_ := Aside0.mk (blk_kept (by (with_reducible repeat (first | refine blk_drewN ?_ _ | refine blk_drew ?_ | refine blk_alloc ?_ _)); exact BK338.out) hkp (fun hs_ => (fun e_ => (Kd.R_ne HO_7.out BK338.out (by decide)) e_) hs_)); have n5_ := Aside0.mk (hb); clear HO_4; clear HO_7; clear HO_339000; clear BK326; clear BK338; clear HB; have HO_4 := n0_; have HO_7 := n1_; have HO_339000 := n2_; have BK326 := n3_; have BK338 := n4_; have HB := n5_; clear n0_ n1_ n2_ n3_ n4_ n5_; (try clear hb); (try clear hkp); (try clear hy0)) | ((with_reducible refine gate_callee (f := 24) rfl ?_); refine goesL_ (some 67) rfl rfl Try.func24 (by kernel_rfl) rfl #[.slice Ao56 t352.length co56, .int .i64 1] rfl (by (try simp only [List.map_toArray, List.map_cons, List.map_nil]); first | done | (rw [show t352.length = t339.length from (Kd.R_reads' HO_7.out).1.symm] <;> rfl) | rfl | (simp only [List.length_drop, List.length_take]; rfl)) ?_; (with_reducible refine (laws_heldIntS.calls kj36 _ _ t352 1 t353 _ ?side1 ?side2 A54.out).mono ?_); (case side1 => repeat (first | exact (Kd.R_reads' HO_7.out).2.2 | (with_reducible refine Kd.C_alloc ?_ _) | (with_reducible refine Kd.C_drewN ?_ _) | (with_reducible refine Kd.C_drew ?_))); (case side2 => rw [show t352.length = t339.length from (Kd.R_reads' HO_7.out).1.symm]; exact (Kd.R_reads' HO_7.out).2.1); rintro e w' ⟨rfl, ⟨nd, rfl⟩⟩; refine ⟨_, rfl, ?_⟩))
                    go_ret
                    exact ⟨by first | rfl | (simp [errW_none, errW_some] <;> rfl) | (simp [*, errW_none, errW_some] <;> rfl), by repeat (first | (with_reducible first | exact HB.out | apply below_alloc | apply pw_below_drewN | apply below_drew1 | refine below_set ?_ GE326.out | refine below_set ?_ GE338.out) | exact HB.out)⟩
                  · rw [if_neg c55] at H
                    have c55b0 : decide (t353 < 0) = false := decide_eq_false c55
                    clear c55
                    by_cases c58 : t353 = t351
                    · rw [if_pos c58] at H
                      have c58b0 : (t353 == t351) = true := beq_iff_eq.mpr c58
                      have c58b1 : (t353 != t351) = false := bne_eq_false_iff_eq.mpr c58
                      clear c58
                      replace H := Option.bind_eq_some_iff.mp H
                      obtain ⟨t354, A590, H⟩ := H
                      replace H : ((impl_KeysOf.f kj36 t354).bind fun bt357 => ((laws_eqIntS.f kj36 bt357.1 t331).bind fun t361 => (if t361 = true then (laws_FnExactKeysOf.j2 kj36 t352 t351 (bt357.2 != t334)) else (laws_FnExactKeysOf.j2 kj36 t352 t351 true)))) = some r := H
                      have A59 := Aside0.mk A590
                      clear A590
                      replace H := Option.bind_eq_some_iff.mp H
                      obtain ⟨⟨t357, t360⟩, A600, H⟩ := H
                      replace H : ((laws_eqIntS.f kj36 t357 t331).bind fun t361 => (if t361 = true then (laws_FnExactKeysOf.j2 kj36 t352 t351 (t360 != t334)) else (laws_FnExactKeysOf.j2 kj36 t352 t351 true))) = some r := H
                      have A60 := Aside0.mk A600
                      clear A600
                      have HC61 := Aside0.mk H
                      clear H
                      obtain ⟨Ao62, co62, eo62⟩ := Kd.R_slice HO_7.out
                      subst eo62
                      go_upto_region 25 with (first | ((with_reducible refine gate_callee (f := 23) rfl ?_); refine goesL_ (some 64) rfl rfl Try.func23 (by kernel_rfl) rfl #[.slice Ao62 t339.length co62, .int .i64 1] rfl (by (try simp only [List.map_toArray, List.map_cons, List.map_nil]); first | done | rfl | (simp only [List.length_drop, List.length_take]; rfl)) ?_; (with_reducible refine (laws_markIntS.calls kj36 (fun k_ => some k_ = (.slice Ao62 t339.length co62 : Value).ownBlock) (.slice Ao62 t339.length co62) t339 1 t351 t352 w _ ?side1 ?side2 A53.out).mono ?_); (case side1 => repeat (first | (with_reducible first | exact HB.out | apply below_alloc | apply pw_below_drewN | apply below_drew1 | refine below_set ?_ GE326.out | refine below_set ?_ GE338.out) | exact HB.out)); (case side2 => exact Kd.R_tight rfl HO_7.out); rintro e w63 ⟨rfl, hy0, hb, hkp⟩; refine ⟨_, rfl, ?_⟩; have n0_ := Aside0.mk (Kd.R_mono (ok' := fun k_ => some k_ ≠ (.slice Ao62 t339.length co62 : Value).ownBlock ∧ some k_ ≠ (.slice Ao22 t349.length co22 : Value).ownBlock) (Kd.R_keptB (HO_4.out) hkp (fun k_ hk_ hs_ => (hk_.1) hs_)) (fun k_ hk_ => ⟨hk_.1.1, hk_.1.2⟩)); have n1_ := Aside0.mk (Kd.R_reok rfl hy0 (fun k_ e_ => HO_7.out.1 k_ e_)); have n2_ := Aside0.mk (Kd.R_mono (ok' := fun k_ => some k_ ≠ (v332 : Value).ownBlock ∧ some k_ ≠ (.slice Ao62 t339.length co62 : Value).ownBlock) (Kd.R_keptB (HO_339000.out) hkp (fun k_ hk_ hs_ => (hk_.2) hs_)) (fun k_ hk_ => ⟨hk_.1.1, hk_.1.2⟩)); have n3_ := Aside0.mk (blk_kept (by (with_reducible repeat (first | refine blk_drewN ?_ _ | refine blk_drew ?_ | refine blk_alloc ?_ _)); exact BK326.out) hkp (fun hs_ => (fun e_ => (Kd.R_ne HO_7.out BK326.out (by decide)) e_) hs_)); have n4_ := Aside0.mk (blk_kept (by (with_reducible repeat (first | refine blk_drewN ?_ _ | refine blk_drew ?_ | refine blk_alloc ?_ _)); exact BK338.out) hkp (fun hs_ => (fun e_ => (Kd.R_ne HO_7.out BK338.out (by decide)) e_) hs_)); have n5_ := Aside0.mk (hb); clear HO_4; clear HO_7; clear HO_339000; clear BK326; clear BK338; clear HB; have HO_4 := n0_; have HO_7 := n1_; have HO_339000 := n2_; have BK326 := n3_; have BK338 := n4_; have HB := n5_; clear n0_ n1_ n2_ n3_ n4_ n5_; (try clear hb); (try clear hkp); (try clear hy0)) | ((with_reducible refine gate_callee (f := 24) rfl ?_); refine goesL_ (some 67) rfl rfl Try.func24 (by kernel_rfl) rfl #[.slice Ao62 t352.length co62, .int .i64 1] rfl (by (try simp only [List.map_toArray, List.map_cons, List.map_nil]); first | done | (rw [show t352.length = t339.length from (Kd.R_reads' HO_7.out).1.symm] <;> rfl) | rfl | (simp only [List.length_drop, List.length_take]; rfl)) ?_; (with_reducible refine (laws_heldIntS.calls kj36 _ _ t352 1 t353 _ ?side1 ?side2 A54.out).mono ?_); (case side1 => repeat (first | exact (Kd.R_reads' HO_7.out).2.2 | (with_reducible refine Kd.C_alloc ?_ _) | (with_reducible refine Kd.C_drewN ?_ _) | (with_reducible refine Kd.C_drew ?_))); (case side2 => rw [show t352.length = t339.length from (Kd.R_reads' HO_7.out).1.symm]; exact (Kd.R_reads' HO_7.out).2.1); rintro e w' ⟨rfl, ⟨nd, rfl⟩⟩; refine ⟨_, rfl, ?_⟩; have hnb64 := NB326_338.out; have hnc64 := NB338_326.out; have hcz65_0 : w63.cell? ⟨gb326, 0, none⟩ = some (.slice A0_0 l0_0.length c0_0) := (blk_cell BK326.out 0).trans rfl; have hfz65_0 := blk_frozen BK326.out 0) | ((with_reducible refine gate_callee (f := 13) rfl ?_); refine goesL_ (some 75) rfl rfl Try.func13 (by kernel_rfl) rfl #[.agg #[.slice A0_0 l0_0.length c0_0]] rfl (by (try simp only [List.map_toArray, List.map_cons, List.map_nil]); first | done | rfl | (simp only [List.length_drop, List.length_take]; rfl)) ?_; (with_reducible refine (laws_toTable.calls kj36 _ _ l0_0 t354 _ ?side1 ?side2 A59.out).mono ?_); (case side1 => repeat (first | exact (Kd.C_below HR0_0.out (by repeat (first | (with_reducible first | exact HB.out | apply below_alloc | apply pw_below_drewN | apply below_drew1 | refine below_set ?_ GE326.out | refine below_set ?_ GE338.out) | exact HB.out))) | (with_reducible refine Kd.C_alloc ?_ _) | (with_reducible refine Kd.C_drewN ?_ _) | (with_reducible refine Kd.C_drew ?_))); (case side2 => exact HC0_0.out); rintro e w66 ⟨v355, rfl, ho0, hb⟩; refine ⟨_, rfl, ?_⟩; have n0_ := Aside0.mk (Kd.R_elder' (by (with_reducible repeat (first | apply Kd.R_alloc | apply Kd.R_drewN | apply Kd.R_drew)); exact HO_4.out) (Kd.R_base ho0) hb); have n1_ := Aside0.mk (Kd.R_elder' (by (with_reducible repeat (first | apply Kd.R_alloc | apply Kd.R_drewN | apply Kd.R_drew)); exact HO_7.out) (Kd.R_base ho0) hb); have n2_ := Aside0.mk (Kd.R_elder' (by (with_reducible repeat (first | apply Kd.R_alloc | apply Kd.R_drewN | apply Kd.R_drew)); exact HO_339000.out) (Kd.R_base ho0) hb); have n3_ := Aside0.mk (Kd.R_lower (Kd.R_new' (Kd.R_new' (Kd.R_new' ho0 (Kd.R_lt (by (with_reducible repeat (first | apply Kd.R_alloc | apply Kd.R_drewN | apply Kd.R_drew)); exact HO_4.out))) (Kd.R_lt (by (with_reducible repeat (first | apply Kd.R_alloc | apply Kd.R_drewN | apply Kd.R_drew)); exact HO_7.out))) (Kd.R_lt (by (with_reducible repeat (first | apply Kd.R_alloc | apply Kd.R_drewN | apply Kd.R_drew)); exact HO_339000.out))) (below_size (by repeat (first | (with_reducible first | exact HB.out | apply below_alloc | apply pw_below_drewN | apply below_drew1 | refine below_set ?_ GE326.out | refine below_set ?_ GE338.out) | exact HB.out)))); have n4_ := Aside0.mk (blk_below (g := gb326) (o := .cells #[.slice A0_0 l0_0.length c0_0] 24 (0, 0)) (by (with_reducible repeat (first | refine blk_drewN ?_ _ | refine blk_drew ?_ | refine blk_alloc ?_ _)); exact BK326.out) hb); have n5_ := Aside0.mk (blk_below (g := gb338) (o := .cells #[.slice Ao22 t349.length co22] 28 (0, 0)) (by (with_reducible repeat (first | refine blk_drewN ?_ _ | refine blk_drew ?_ | refine blk_alloc ?_ _)); exact BK338.out) hb); have n6_ := Aside0.mk (below_step (by repeat (first | (with_reducible first | exact HB.out | apply below_alloc | apply pw_below_drewN | apply below_drew1 | refine below_set ?_ GE326.out | refine below_set ?_ GE338.out) | exact HB.out)) hb); clear HO_4; clear HO_7; clear HO_339000; clear BK326; clear BK338; clear HB; have HO_4 := n0_; have HO_7 := n1_; have HO_339000 := n2_; have HO356 := n3_; have BK326 := n4_; have BK338 := n5_; have HB := n6_; clear n0_ n1_ n2_ n3_ n4_ n5_ n6_; (try clear hb); (try clear hb2); (try clear hk); (try clear hi); (try clear ho0); obtain ⟨Ao67, co67, eo67⟩ := Kd.R_slice HO356.out; subst eo67) | ((with_reducible refine gate_callee (f := 21) rfl ?_); refine goesL_ (some 76) rfl rfl Try.func21 (by kernel_rfl) rfl #[.agg #[.slice Ao67 t354.length co67]] rfl (by (try simp only [List.map_toArray, List.map_cons, List.map_nil]); first | done | rfl | (simp only [List.length_drop, List.length_take]; rfl)) ?_; (with_reducible refine (impl_KeysOf.calls kj36 _ _ t354 t357 t360 _ ?side1 ?side2 A60.out).mono ?_); (case side1 => repeat (first | exact (Kd.R_reads' HO356.out).2.2 | (with_reducible refine Kd.C_alloc ?_ _) | (with_reducible refine Kd.C_drewN ?_ _) | (with_reducible refine Kd.C_drew ?_))); (case side2 => exact (Kd.R_reads' HO356.out).2.1); rintro e w68 ⟨v358, rfl, ho0, hb⟩; refine ⟨_, rfl, ?_⟩; have n0_ := Aside0.mk (Kd.R_elder' (by (with_reducible repeat (first | apply Kd.R_alloc | apply Kd.R_drewN | apply Kd.R_drew)); exact HO_4.out) (Kd.R_base ho0) hb); have n1_ := Aside0.mk (Kd.R_elder' (by (with_reducible repeat (first | apply Kd.R_alloc | apply Kd.R_drewN | apply Kd.R_drew)); exact HO_7.out) (Kd.R_base ho0) hb); have n2_ := Aside0.mk (Kd.R_elder' (by (with_reducible repeat (first | apply Kd.R_alloc | apply Kd.R_drewN | apply Kd.R_drew)); exact HO_339000.out) (Kd.R_base ho0) hb); have n3_ := Aside0.mk (Kd.R_elder' (by (with_reducible repeat (first | apply Kd.R_alloc | apply Kd.R_drewN | apply Kd.R_drew)); exact HO356.out) (Kd.R_base ho0) hb); have n4_ := Aside0.mk (Kd.R_lower (Kd.R_new' (Kd.R_new' (Kd.R_new' (Kd.R_new' ho0 (Kd.R_lt (by (with_reducible repeat (first | apply Kd.R_alloc | apply Kd.R_drewN | apply Kd.R_drew)); exact HO_4.out))) (Kd.R_lt (by (with_reducible repeat (first | apply Kd.R_alloc | apply Kd.R_drewN | apply Kd.R_drew)); exact HO_7.out))) (Kd.R_lt (by (with_reducible repeat (first | apply Kd.R_alloc | apply Kd.R_drewN | apply Kd.R_drew)); exact HO_339000.out))) (Kd.R_lt (by (with_reducible repeat (first | apply Kd.R_alloc | apply Kd.R_drewN | apply Kd.R_drew)); exact HO356.out))) (below_size (by repeat (first | (with_reducible first | exact HB.out | apply below_alloc | apply pw_below_drewN | apply below_drew1 | refine below_set ?_ GE326.out | refine below_set ?_ GE338.out) | exact HB.out)))); have n5_ := Aside0.mk (blk_below (g := gb326) (o := .cells #[.slice A0_0 l0_0.length c0_0] 24 (0, 0)) (by (with_reducible repeat (first | refine blk_drewN ?_ _ | refine blk_drew ?_ | refine blk_alloc ?_ _)); exact BK326.out) hb); have n6_ := Aside0.mk (blk_below (g := gb338) (o := .cells #[.slice Ao22 t349.length co22] 28 (0, 0)) (by (with_reducible repeat (first | refine blk_drewN ?_ _ | refine blk_drew ?_ | refine blk_alloc ?_ _)); exact BK338.out) hb); have n7_ := Aside0.mk (below_step (by repeat (first | (with_reducible first | exact HB.out | apply below_alloc | apply pw_below_drewN | apply below_drew1 | refine below_set ?_ GE326.out | refine below_set ?_ GE338.out) | exact HB.out)) hb); clear HO_4; clear HO_7; clear HO_339000; clear HO356; clear BK326; clear BK338; clear HB; have HO_4 := n0_; have HO_7 := n1_; have HO_339000 := n2_; have HO356 := n3_; have HO359 := n4_; have BK326 := n5_; have BK338 := n6_; have HB := n7_; clear n0_ n1_ n2_ n3_ n4_ n5_ n6_ n7_; (try clear hb); (try clear hb2); (try clear hk); (try clear hi); (try clear ho0)))
                      (try simp only [Act.put, List.setIfInBounds_toArray, List.set_cons_zero, List.set_cons_succ])
                      go_cut [87] (fun v87 wc => ∃ (kq : Nat) (x87_60 : Bool), v87 = .bool x87_60 ∧ Aside0 (laws_FnExactKeysOf.j2 kq t352 t351 x87_60 = some r) ∧ Aside0 (kq ≤ kj36) ∧ Aside0 (Kd.R (Kd.int .i64) 3 wc w.heap.size (fun k_ => some k_ ≠ ((.slice Ao22 t349.length co22) : Value).ownBlock) (.slice Ao62 t339.length co62) t352) ∧ Aside0 (Kd.R (Kd.int .i64) 3 wc w.heap.size (fun k_ => some k_ ≠ ((.slice Ao62 t339.length co62) : Value).ownBlock) (.slice Ao22 t349.length co22) t349) ∧ Aside0 (wc.heap[gb326]? = some (.cells #[(.slice A0_0 l0_0.length c0_0)] 24 (0, 0))) ∧ Aside0 (wc.heap[gb338]? = some (.cells #[(.slice Ao22 t349.length co22)] 28 (0, 0))) ∧ Aside0 (Below w.heap.size w wc))
                      case first =>
                        have H := HC61.out
                        clear HC61
                        replace H := Option.bind_eq_some_iff.mp H
                        obtain ⟨t361, A690, H⟩ := H
                        replace H : (if t361 = true then (laws_FnExactKeysOf.j2 kj36 t352 t351 (t360 != t334)) else (laws_FnExactKeysOf.j2 kj36 t352 t351 true)) = some r := H
                        have A69 := Aside0.mk A690
                        clear A690
                        by_cases c70 : t361 = true
                        · subst c70
                          have H1 : (laws_FnExactKeysOf.j2 kj36 t352 t351 (t360 != t334)) = some r := by rw [if_pos rfl] at H; exact H
                          clear H
                          have H := H1
                          clear H1
                          have H' := Aside0.mk H
                          clear H
                          obtain ⟨Ao71, co71, eo71⟩ := Kd.R_slice HO359.out
                          subst eo71
                          obtain ⟨Ao72, co72, eo72⟩ := Kd.R_slice HO_4.out
                          subst eo72
                          go_wp2_with (first | ((with_reducible refine gate_callee (f := 22) rfl ?_); refine goesL_ (some 81) rfl rfl Try.func22 (by kernel_rfl) rfl #[.slice Ao71 t357.length co71, .slice Ao72 t331.length co72] rfl (by (try simp only [List.map_toArray, List.map_cons, List.map_nil]); first | done | rfl | (simp only [List.length_drop, List.length_take]; rfl)) ?_; (with_reducible refine (laws_eqIntS.calls kj36 _ _ t357 _ _ t331 true _ ?side1 ?side2 ?side3 ?side4 A69.out).mono ?_); (case side1 => repeat (first | exact (Kd.R_reads' HO359.out).2.2 | (with_reducible refine Kd.C_alloc ?_ _) | (with_reducible refine Kd.C_drewN ?_ _) | (with_reducible refine Kd.C_drew ?_))); (case side2 => exact (Kd.R_reads' HO359.out).2.1); (case side3 => repeat (first | exact (Kd.R_reads' HO_4.out).2.2 | (with_reducible refine Kd.C_alloc ?_ _) | (with_reducible refine Kd.C_drewN ?_ _) | (with_reducible refine Kd.C_drew ?_))); (case side4 => exact (Kd.R_reads' HO_4.out).2.1); rintro e w' ⟨rfl, ⟨nd, rfl⟩⟩; refine ⟨_, rfl, ?_⟩))
                          go_meet
                          case rel => exact ⟨_, ((t360 != t334)), (by first | rfl | (simp; done) | (simp [*]; done)), H', ⟨by have := HJ10.out; have := HJ36.out; first | omega | exact Nat.le_refl _⟩, ⟨by (try simp only [hl339000_36]); (with_reducible repeat (first | apply Kd.R_alloc | apply Kd.R_drewN | apply Kd.R_drew)); exact Kd.R_mono HO_7.out (fun _ hk => hk.1.1.2)⟩, ⟨by (try simp only [hl339000_36]); (with_reducible repeat (first | apply Kd.R_alloc | apply Kd.R_drewN | apply Kd.R_drew)); exact Kd.R_mono HO_339000.out (fun _ hk => hk.1.1.2)⟩, ⟨by (try simp only [hl339000_36]); (with_reducible repeat (first | refine blk_drewN ?_ _ | refine blk_drew ?_ | refine blk_alloc ?_ _)); exact BK326.out⟩, ⟨by (try simp only [hl339000_36]); (with_reducible repeat (first | refine blk_drewN ?_ _ | refine blk_drew ?_ | refine blk_alloc ?_ _)); exact BK338.out⟩, ⟨by repeat (first | (with_reducible first | exact HB.out | apply below_alloc | apply pw_below_drewN | apply below_drew1 | refine below_set ?_ GE326.out | refine below_set ?_ GE338.out) | exact HB.out)⟩⟩
                        · replace c70 := Bool.eq_false_iff.mpr c70
                          subst c70
                          have H1 : (laws_FnExactKeysOf.j2 kj36 t352 t351 true) = some r := by rw [if_neg (show ¬ (false = true) by decide)] at H; exact H
                          clear H
                          have H := H1
                          clear H1
                          have H' := Aside0.mk H
                          clear H
                          obtain ⟨Ao73, co73, eo73⟩ := Kd.R_slice HO359.out
                          subst eo73
                          obtain ⟨Ao74, co74, eo74⟩ := Kd.R_slice HO_4.out
                          subst eo74
                          go_wp2_with (first | ((with_reducible refine gate_callee (f := 22) rfl ?_); refine goesL_ (some 81) rfl rfl Try.func22 (by kernel_rfl) rfl #[.slice Ao73 t357.length co73, .slice Ao74 t331.length co74] rfl (by (try simp only [List.map_toArray, List.map_cons, List.map_nil]); first | done | rfl | (simp only [List.length_drop, List.length_take]; rfl)) ?_; (with_reducible refine (laws_eqIntS.calls kj36 _ _ t357 _ _ t331 false _ ?side1 ?side2 ?side3 ?side4 A69.out).mono ?_); (case side1 => repeat (first | exact (Kd.R_reads' HO359.out).2.2 | (with_reducible refine Kd.C_alloc ?_ _) | (with_reducible refine Kd.C_drewN ?_ _) | (with_reducible refine Kd.C_drew ?_))); (case side2 => exact (Kd.R_reads' HO359.out).2.1); (case side3 => repeat (first | exact (Kd.R_reads' HO_4.out).2.2 | (with_reducible refine Kd.C_alloc ?_ _) | (with_reducible refine Kd.C_drewN ?_ _) | (with_reducible refine Kd.C_drew ?_))); (case side4 => exact (Kd.R_reads' HO_4.out).2.1); rintro e w' ⟨rfl, ⟨nd, rfl⟩⟩; refine ⟨_, rfl, ?_⟩))
                          go_meet
                          case rel => exact ⟨_, (true), (by first | rfl | (simp; done) | (simp [*]; done)), H', ⟨by have := HJ10.out; have := HJ36.out; first | omega | exact Nat.le_refl _⟩, ⟨by (try simp only [hl339000_36]); (with_reducible repeat (first | apply Kd.R_alloc | apply Kd.R_drewN | apply Kd.R_drew)); exact Kd.R_mono HO_7.out (fun _ hk => hk.1.1.2)⟩, ⟨by (try simp only [hl339000_36]); (with_reducible repeat (first | apply Kd.R_alloc | apply Kd.R_drewN | apply Kd.R_drew)); exact Kd.R_mono HO_339000.out (fun _ hk => hk.1.1.2)⟩, ⟨by (try simp only [hl339000_36]); (with_reducible repeat (first | refine blk_drewN ?_ _ | refine blk_drew ?_ | refine blk_alloc ?_ _)); exact BK326.out⟩, ⟨by (try simp only [hl339000_36]); (with_reducible repeat (first | refine blk_drewN ?_ _ | refine blk_drew ?_ | refine blk_alloc ?_ _)); exact BK338.out⟩, ⟨by repeat (first | (with_reducible first | exact HB.out | apply below_alloc | apply pw_below_drewN | apply below_drew1 | refine below_set ?_ GE326.out | refine below_set ?_ GE338.out) | exact HB.out)⟩⟩
                      case rest =>
                        clear HC61
                        try clear c1
                        try clear c2
                        try clear p2
                        try clear c3
                        try clear c3b0
                        try clear c4
                        try clear c5
                        try clear c6
                        try clear c7
                        try clear c11
                        try clear c13
                        try clear c15
                        try clear c18
                        try clear c20
                        try clear c21
                        try clear c22
                        try clear c23
                        try clear c24
                        try clear c27
                        try clear c32
                        try clear c35
                        try clear c42
                        try clear c45
                        try clear c45b0
                        try clear c47
                        try clear c52
                        try clear c55
                        try clear c55b0
                        try clear c58
                        try clear c58b0
                        try clear c58b1
                        try clear c64
                        try clear c70
                        try clear hcz13_0
                        try clear hcz15_0
                        try clear hcz19_0
                        try clear hcz24_0
                        try clear hcz43_0
                        try clear hcz5_0
                        try clear hcz65_0
                        try clear hfz13_0
                        try clear hfz15_0
                        try clear hfz19_0
                        try clear hfz24_0
                        try clear hfz43_0
                        try clear hfz5_0
                        try clear hfz65_0
                        try clear p2
                        obtain ⟨kq, x87_60, rfl, HA, HJ60, HO_7, HO_339000, BK326, BK338, HB⟩ := hcut
                        have hl7_60 := (Kd.R_reads' HO_7.out).1
                        rw [hl7_60] at HO_7
                        (try simp only [hl7_60])
                        (try simp only [hl7_60] at BK326)
                        (try simp only [hl7_60] at BK338)
                        (try simp only [hl7_60] at HO_339000)
                        cases kq with
                        | zero => exact absurd HA.out (by simp [laws_FnExactKeysOf.j2])
                        | succ kj60 =>
                          have H := HA.out
                          clear HA
                          simp only [laws_FnExactKeysOf.j2] at H
                          by_cases c75 : x87_60 = true
                          · subst c75
                            have H1 : (some false) = some r := by rw [if_pos rfl] at H; exact H
                            clear H
                            have H := H1
                            clear H1
                            obtain rfl := Option.some.inj H
                            go_wp2
                            go_ret
                            exact ⟨by first | rfl | (simp [errW_none, errW_some] <;> rfl) | (simp [*, errW_none, errW_some] <;> rfl), by repeat (first | (with_reducible first | exact HB.out | apply below_alloc | apply pw_below_drewN | apply below_drew1 | refine below_set ?_ GE326.out | refine below_set ?_ GE338.out) | exact HB.out)⟩
                          · replace c75 := Bool.eq_false_iff.mpr c75
                            subst c75
                            have H1 : ((laws_heldIntS.f kj60 t352 1).bind fun t362 => (if t362 < 0 then (some false) else (if t362 = t351 then (some true) else (some false)))) = some r := by rw [if_neg (show ¬ (false = true) by decide)] at H; exact H
                            clear H
                            have H := H1
                            clear H1
                            replace H := Option.bind_eq_some_iff.mp H
                            obtain ⟨t362, A760, H⟩ := H
                            replace H : (if t362 < 0 then (some false) else (if t362 = t351 then (some true) else (some false))) = some r := H
                            have A76 := Aside0.mk A760
                            clear A760
                            by_cases c77 : t362 < 0
                            · rw [if_pos c77] at H
                              have c77b0 : decide (t362 < 0) = true := decide_eq_true c77
                              clear c77
                              obtain rfl := Option.some.inj H
                              go_wp2_with (first | ((with_reducible refine gate_callee (f := 24) rfl ?_); refine goesL_ (some 90) rfl rfl Try.func24 (by kernel_rfl) rfl #[.slice Ao62 t352.length co62, .int .i64 1] rfl (by (try simp only [List.map_toArray, List.map_cons, List.map_nil]); first | done | rfl | (simp only [List.length_drop, List.length_take]; rfl)) ?_; (with_reducible refine (laws_heldIntS.calls kj60 _ _ t352 1 t362 _ ?side1 ?side2 A76.out).mono ?_); (case side1 => repeat (first | exact (Kd.R_reads' HO_7.out).2.2 | (with_reducible refine Kd.C_alloc ?_ _) | (with_reducible refine Kd.C_drewN ?_ _) | (with_reducible refine Kd.C_drew ?_))); (case side2 => exact (Kd.R_reads' HO_7.out).2.1); rintro e w' ⟨rfl, ⟨nd, rfl⟩⟩; refine ⟨_, rfl, ?_⟩))
                              go_ret
                              exact ⟨by first | rfl | (simp [errW_none, errW_some] <;> rfl) | (simp [*, errW_none, errW_some] <;> rfl), by repeat (first | (with_reducible first | exact HB.out | apply below_alloc | apply pw_below_drewN | apply below_drew1 | refine below_set ?_ GE326.out | refine below_set ?_ GE338.out) | exact HB.out)⟩
                            · rw [if_neg c77] at H
                              have c77b0 : decide (t362 < 0) = false := decide_eq_false c77
                              clear c77
                              by_cases c78 : t362 = t351
                              · rw [if_pos c78] at H
                                have c78b0 : (t362 == t351) = true := beq_iff_eq.mpr c78
                                have c78b1 : (t362 != t351) = false := bne_eq_false_iff_eq.mpr c78
                                clear c78
                                obtain rfl := Option.some.inj H
                                go_wp2_with (first | ((with_reducible refine gate_callee (f := 24) rfl ?_); refine goesL_ (some 90) rfl rfl Try.func24 (by kernel_rfl) rfl #[.slice Ao62 t352.length co62, .int .i64 1] rfl (by (try simp only [List.map_toArray, List.map_cons, List.map_nil]); first | done | rfl | (simp only [List.length_drop, List.length_take]; rfl)) ?_; (with_reducible refine (laws_heldIntS.calls kj60 _ _ t352 1 t362 _ ?side1 ?side2 A76.out).mono ?_); (case side1 => repeat (first | exact (Kd.R_reads' HO_7.out).2.2 | (with_reducible refine Kd.C_alloc ?_ _) | (with_reducible refine Kd.C_drewN ?_ _) | (with_reducible refine Kd.C_drew ?_))); (case side2 => exact (Kd.R_reads' HO_7.out).2.1); rintro e w' ⟨rfl, ⟨nd, rfl⟩⟩; refine ⟨_, rfl, ?_⟩))
                                go_ret
                                exact ⟨by first | rfl | (simp [errW_none, errW_some] <;> rfl) | (simp [*, errW_none, errW_some] <;> rfl), by repeat (first | (with_reducible first | exact HB.out | apply below_alloc | apply pw_below_drewN | apply below_drew1 | refine below_set ?_ GE326.out | refine below_set ?_ GE338.out) | exact HB.out)⟩
                              · rw [if_neg c78] at H
                                have c78b0 : (t362 == t351) = false := beq_eq_false_iff_ne.mpr c78
                                have c78b1 : (t362 != t351) = true := bne_iff_ne.mpr c78
                                obtain rfl := Option.some.inj H
                                go_wp2_with (first | ((with_reducible refine gate_callee (f := 24) rfl ?_); refine goesL_ (some 90) rfl rfl Try.func24 (by kernel_rfl) rfl #[.slice Ao62 t352.length co62, .int .i64 1] rfl (by (try simp only [List.map_toArray, List.map_cons, List.map_nil]); first | done | rfl | (simp only [List.length_drop, List.length_take]; rfl)) ?_; (with_reducible refine (laws_heldIntS.calls kj60 _ _ t352 1 t362 _ ?side1 ?side2 A76.out).mono ?_); (case side1 => repeat (first | exact (Kd.R_reads' HO_7.out).2.2 | (with_reducible refine Kd.C_alloc ?_ _) | (with_reducible refine Kd.C_drewN ?_ _) | (with_reducible refine Kd.C_drew ?_))); (case side2 => exact (Kd.R_reads' HO_7.out).2.1); rintro e w' ⟨rfl, ⟨nd, rfl⟩⟩; refine ⟨_, rfl, ?_⟩))
                                go_ret
                                exact ⟨by first | rfl | (simp [errW_none, errW_some] <;> rfl) | (simp [*, errW_none, errW_some] <;> rfl), by repeat (first | (with_reducible first | exact HB.out | apply below_alloc | apply pw_below_drewN | apply below_drew1 | refine below_set ?_ GE326.out | refine below_set ?_ GE338.out) | exact HB.out)⟩
                    · rw [if_neg c58] at H
                      have c58b0 : (t353 == t351) = false := beq_eq_false_iff_ne.mpr c58
                      have c58b1 : (t353 != t351) = true := bne_iff_ne.mpr c58
                      obtain rfl := Option.some.inj H
                      obtain ⟨Ao79, co79, eo79⟩ := Kd.R_slice HO_7.out
                      subst eo79
                      go_wp2_with (first | ((with_reducible refine gate_callee (f := 23) rfl ?_); refine goesL_ (some 64) rfl rfl Try.func23 (by kernel_rfl) rfl #[.slice Ao79 t339.length co79, .int .i64 1] rfl (by (try simp only [List.map_toArray, List.map_cons, List.map_nil]); first | done | rfl | (simp only [List.length_drop, List.length_take]; rfl)) ?_; (with_reducible refine (laws_markIntS.calls kj36 (fun k_ => some k_ = (.slice Ao79 t339.length co79 : Value).ownBlock) (.slice Ao79 t339.length co79) t339 1 t351 t352 w _ ?side1 ?side2 A53.out).mono ?_); (case side1 => repeat (first | (with_reducible first | exact HB.out | apply below_alloc | apply pw_below_drewN | apply below_drew1 | refine below_set ?_ GE326.out | refine below_set ?_ GE338.out) | exact HB.out)); (case side2 => exact Kd.R_tight rfl HO_7.out); rintro e w80 ⟨rfl, hy0, hb, hkp⟩; refine ⟨_, rfl, ?_⟩; have n0_ := Aside0.mk (Kd.R_mono (ok' := fun k_ => some k_ ≠ (.slice Ao79 t339.length co79 : Value).ownBlock ∧ some k_ ≠ (.slice Ao22 t349.length co22 : Value).ownBlock) (Kd.R_keptB (HO_4.out) hkp (fun k_ hk_ hs_ => (hk_.1) hs_)) (fun k_ hk_ => ⟨hk_.1.1, hk_.1.2⟩)); have n1_ := Aside0.mk (Kd.R_reok rfl hy0 (fun k_ e_ => HO_7.out.1 k_ e_)); have n2_ := Aside0.mk (Kd.R_mono (ok' := fun k_ => some k_ ≠ (v332 : Value).ownBlock ∧ some k_ ≠ (.slice Ao79 t339.length co79 : Value).ownBlock) (Kd.R_keptB (HO_339000.out) hkp (fun k_ hk_ hs_ => (hk_.2) hs_)) (fun k_ hk_ => ⟨hk_.1.1, hk_.1.2⟩)); have n3_ := Aside0.mk (blk_kept (by (with_reducible repeat (first | refine blk_drewN ?_ _ | refine blk_drew ?_ | refine blk_alloc ?_ _)); exact BK326.out) hkp (fun hs_ => (fun e_ => (Kd.R_ne HO_7.out BK326.out (by decide)) e_) hs_)); have n4_ := Aside0.mk (blk_kept (by (with_reducible repeat (first | refine blk_drewN ?_ _ | refine blk_drew ?_ | refine blk_alloc ?_ _)); exact BK338.out) hkp (fun hs_ => (fun e_ => (Kd.R_ne HO_7.out BK338.out (by decide)) e_) hs_)); have n5_ := Aside0.mk (hb); clear HO_4; clear HO_7; clear HO_339000; clear BK326; clear BK338; clear HB; have HO_4 := n0_; have HO_7 := n1_; have HO_339000 := n2_; have BK326 := n3_; have BK338 := n4_; have HB := n5_; clear n0_ n1_ n2_ n3_ n4_ n5_; (try clear hb); (try clear hkp); (try clear hy0)) | ((with_reducible refine gate_callee (f := 24) rfl ?_); refine goesL_ (some 67) rfl rfl Try.func24 (by kernel_rfl) rfl #[.slice Ao79 t352.length co79, .int .i64 1] rfl (by (try simp only [List.map_toArray, List.map_cons, List.map_nil]); first | done | (rw [show t352.length = t339.length from (Kd.R_reads' HO_7.out).1.symm] <;> rfl) | rfl | (simp only [List.length_drop, List.length_take]; rfl)) ?_; (with_reducible refine (laws_heldIntS.calls kj36 _ _ t352 1 t353 _ ?side1 ?side2 A54.out).mono ?_); (case side1 => repeat (first | exact (Kd.R_reads' HO_7.out).2.2 | (with_reducible refine Kd.C_alloc ?_ _) | (with_reducible refine Kd.C_drewN ?_ _) | (with_reducible refine Kd.C_drew ?_))); (case side2 => rw [show t352.length = t339.length from (Kd.R_reads' HO_7.out).1.symm]; exact (Kd.R_reads' HO_7.out).2.1); rintro e w' ⟨rfl, ⟨nd, rfl⟩⟩; refine ⟨_, rfl, ?_⟩))
                      go_ret
                      exact ⟨by first | rfl | (simp [errW_none, errW_some] <;> rfl) | (simp [*, errW_none, errW_some] <;> rfl), by repeat (first | (with_reducible first | exact HB.out | apply below_alloc | apply pw_below_drewN | apply below_drew1 | refine below_set ?_ GE326.out | refine below_set ?_ GE338.out) | exact HB.out)⟩
          · replace c35 := Bool.eq_false_iff.mpr c35
            subst c35
            have H1 : (some false) = some r := by rw [if_neg (show ¬ (false = true) by decide)] at H; exact H
            clear H
            have H := H1
            clear H1
            obtain rfl := Option.some.inj H
            try go_wp2
            have n0_ := Aside0.mk (Kd.R_drew HO_4.out)
            have n1_ := Aside0.mk (Kd.R_drew HO_7.out)
            have n2_ := Aside0.mk (Kd.R_drew HO_339000.out)
            have n3_ := Aside0.mk (blk_drew BK326.out)
            have n4_ := Aside0.mk (blk_drew BK338.out)
            have n5_ := Aside0.mk (below_drew1 HB.out)
            clear HO_4
            clear HO_7
            clear HO_339000
            clear BK326
            clear BK338
            clear HB
            have HO_4 := n0_
            have HO_7 := n1_
            have HO_339000 := n2_
            have BK326 := n3_
            have BK338 := n4_
            have HB := n5_
            clear n0_ n1_ n2_ n3_ n4_ n5_
            refine start_ (n := 5) (S := fun w' => w'.cell? ⟨gb338, 0, none⟩ = some (.slice Ao22 t335.length co22) ∧ w'.cell? ⟨gb326, 0, none⟩ = some (.slice A0_0 l0_0.length c0_0)) (ds := []) #[false, false, false, false, false] (by kernel_rfl) rfl rfl ⟨(blk_cell BK338.out 0).trans rfl, (blk_cell BK326.out 0).trans rfl⟩ (fun hHeld => ?_)
            generalize wc.drew = w81 at HO_4 HO_7 HO_339000 BK326 BK338 HB hHeld ⊢
            refine take_ (i := 0) (N := some 41) (v := ?_) (a' := ?_) #[true, false, false, false, false] rfl rfl (by kernel_rfl) (fun _ _ _ h => h) (Or.inl ⟨by rfl, ?_⟩) hHeld ?_ ?_
            rotate_left
            · rintro w' ⟨s0, s1⟩
              go_simp
              with_reducible rfl
            rotate_left
            · simp only [Act.put, List.setIfInBounds_toArray, List.set_cons_zero, List.set_cons_succ, i64_w, i32_w]
              rfl
            refine take_ (i := 1) (N := some 42) (v := ?_) (a' := ?_) #[true, true, false, false, false] rfl rfl (by kernel_rfl) (fun _ _ _ h => h) (Or.inl ⟨by rfl, ?_⟩) hHeld ?_ ?_
            rotate_left
            · rintro w' ⟨s0, s1⟩
              go_simp
              with_reducible rfl
            rotate_left
            · simp only [Act.put, List.setIfInBounds_toArray, List.set_cons_zero, List.set_cons_succ, i64_w, i32_w]
              rfl
            refine one_ (i := 2) (N := some 43) #[true, true, true, false, false] rfl rfl (by kernel_rfl) (by decide) (fun K hK => ?_)
            refine goes_ Try.func13 (by kernel_rfl) rfl #[.agg #[.slice A0_0 l0_0.length c0_0]] (by rfl) rfl rfl (by (try simp only [List.map_toArray, List.map_cons, List.map_nil]); first | done | rfl | (simp only [List.length_drop, List.length_take]; rfl)) ?_
            with_reducible refine (laws_toTable.calls kj10 _ _ l0_0 t344 _ ?side1 ?side2 A33.out).mono ?_
            (case side1 => repeat (first | exact (Kd.C_below HR0_0.out HB.out) | (with_reducible refine Kd.C_alloc ?_ _) | (with_reducible refine Kd.C_drewN ?_ _) | (with_reducible refine Kd.C_drew ?_)))
            (case side2 => exact HC0_0.out)
            rintro e w82 ⟨v345, rfl, ho0, hb⟩
            refine ⟨_, rfl, ?_⟩
            have n0_ := Aside0.mk (Kd.R_elder' (by (with_reducible repeat (first | apply Kd.R_alloc | apply Kd.R_drewN | apply Kd.R_drew)); exact HO_4.out) (Kd.R_base ho0) hb)
            have n1_ := Aside0.mk (Kd.R_elder' (by (with_reducible repeat (first | apply Kd.R_alloc | apply Kd.R_drewN | apply Kd.R_drew)); exact HO_7.out) (Kd.R_base ho0) hb)
            have n2_ := Aside0.mk (Kd.R_elder' (by (with_reducible repeat (first | apply Kd.R_alloc | apply Kd.R_drewN | apply Kd.R_drew)); exact HO_339000.out) (Kd.R_base ho0) hb)
            have n3_ := Aside0.mk (Kd.R_lower (Kd.R_new' (Kd.R_new' (Kd.R_new' ho0 (Kd.R_lt (by (with_reducible repeat (first | apply Kd.R_alloc | apply Kd.R_drewN | apply Kd.R_drew)); exact HO_4.out))) (Kd.R_lt (by (with_reducible repeat (first | apply Kd.R_alloc | apply Kd.R_drewN | apply Kd.R_drew)); exact HO_7.out))) (Kd.R_lt (by (with_reducible repeat (first | apply Kd.R_alloc | apply Kd.R_drewN | apply Kd.R_drew)); exact HO_339000.out))) (below_size (by repeat (first | (with_reducible first | exact HB.out | apply below_alloc | apply pw_below_drewN | apply below_drew1 | refine below_set ?_ GE326.out | refine below_set ?_ GE338.out) | exact HB.out))))
            have n4_ := Aside0.mk (blk_below (g := gb326) (o := .cells #[.slice A0_0 l0_0.length c0_0] 24 (0, 0)) (by (with_reducible repeat (first | refine blk_drewN ?_ _ | refine blk_drew ?_ | refine blk_alloc ?_ _)); exact BK326.out) hb)
            have n5_ := Aside0.mk (blk_below (g := gb338) (o := .cells #[.slice Ao22 t335.length co22] 28 (0, 0)) (by (with_reducible repeat (first | refine blk_drewN ?_ _ | refine blk_drew ?_ | refine blk_alloc ?_ _)); exact BK338.out) hb)
            have n6_ := Aside0.mk (below_step (by repeat (first | (with_reducible first | exact HB.out | apply below_alloc | apply pw_below_drewN | apply below_drew1 | refine below_set ?_ GE326.out | refine below_set ?_ GE338.out) | exact HB.out)) hb)
            clear HO_4
            clear HO_7
            clear HO_339000
            clear BK326
            clear BK338
            clear HB
            have HO_4 := n0_
            have HO_7 := n1_
            have HO_339000 := n2_
            have HO346 := n3_
            have BK326 := n4_
            have BK338 := n5_
            have HB := n6_
            clear n0_ n1_ n2_ n3_ n4_ n5_ n6_
            (try clear hb)
            (try clear hb2)
            (try clear hk)
            (try clear hi)
            (try clear ho0)
            obtain ⟨Ao83, co83, eo83⟩ := Kd.R_slice HO346.out
            (first | subst eo83 | (injection eo83 with f1_ f2_ f3_; have f4_ := f1_.symm; have f5_ := f3_.symm; clear f1_ f2_ f3_; subst f4_; subst f5_))
            refine hK.out _ _ ⟨(blk_cell BK338.out 0).trans rfl, (blk_cell BK326.out 0).trans rfl⟩ (fun hHeld => ?_)
            clear hK K
            refine norm_ (a' := ?_) ?_ ?_
            rotate_left
            · show Act.put _ (some 43) _ = _
              simp only [Act.put, List.setIfInBounds_toArray, List.set_cons_zero, List.set_cons_succ, i64_w, i32_w]
              rfl
            refine one_ (i := 3) (N := some 44) #[true, true, true, true, false] rfl rfl (by kernel_rfl) (by decide) (fun K hK => ?_)
            refine goes_ Try.func15 (by kernel_rfl) rfl #[.agg #[.slice Ao22 t335.length co22], .agg #[.slice Ao83 t344.length co83]] (by rfl) rfl rfl (by (try simp only [List.map_toArray, List.map_cons, List.map_nil]); first | done | rfl | (simp only [List.length_drop, List.length_take]; rfl)) ?_
            with_reducible refine (laws_eqTable.calls kj10 _ _ t335 _ _ t344 false _ ?side1 ?side2 ?side3 ?side4 A34.out).mono ?_
            (case side1 => repeat (first | exact (Kd.R_reads' HO_339000.out).2.2 | (with_reducible refine Kd.C_alloc ?_ _) | (with_reducible refine Kd.C_drewN ?_ _) | (with_reducible refine Kd.C_drew ?_)))
            (case side2 => exact (Kd.R_reads' HO_339000.out).2.1)
            (case side3 => repeat (first | exact (Kd.R_reads' HO346.out).2.2 | (with_reducible refine Kd.C_alloc ?_ _) | (with_reducible refine Kd.C_drewN ?_ _) | (with_reducible refine Kd.C_drew ?_)))
            (case side4 => exact (Kd.R_reads' HO346.out).2.1)
            rintro e w84 ⟨rfl, hb⟩
            refine ⟨_, rfl, ?_⟩
            have n0_ := Aside0.mk (Kd.R_below (by (with_reducible repeat (first | apply Kd.R_alloc | apply Kd.R_drewN | apply Kd.R_drew)); exact HO_4.out) hb)
            have n1_ := Aside0.mk (Kd.R_below (by (with_reducible repeat (first | apply Kd.R_alloc | apply Kd.R_drewN | apply Kd.R_drew)); exact HO_7.out) hb)
            have n2_ := Aside0.mk (Kd.R_below (by (with_reducible repeat (first | apply Kd.R_alloc | apply Kd.R_drewN | apply Kd.R_drew)); exact HO_339000.out) hb)
            have n3_ := Aside0.mk (Kd.R_below (by (with_reducible repeat (first | apply Kd.R_alloc | apply Kd.R_drewN | apply Kd.R_drew)); exact HO346.out) hb)
            have n4_ := Aside0.mk (blk_below (g := gb326) (o := .cells #[.slice A0_0 l0_0.length c0_0] 24 (0, 0)) (by (with_reducible repeat (first | refine blk_drewN ?_ _ | refine blk_drew ?_ | refine blk_alloc ?_ _)); exact BK326.out) hb)
            have n5_ := Aside0.mk (blk_below (g := gb338) (o := .cells #[.slice Ao22 t335.length co22] 28 (0, 0)) (by (with_reducible repeat (first | refine blk_drewN ?_ _ | refine blk_drew ?_ | refine blk_alloc ?_ _)); exact BK338.out) hb)
            have n6_ := Aside0.mk (below_step (by repeat (first | (with_reducible first | exact HB.out | apply below_alloc | apply pw_below_drewN | apply below_drew1 | refine below_set ?_ GE326.out | refine below_set ?_ GE338.out) | exact HB.out)) hb)
            clear HO_4
            clear HO_7
            clear HO_339000
            clear HO346
            clear BK326
            clear BK338
            clear HB
            have HO_4 := n0_
            have HO_7 := n1_
            have HO_339000 := n2_
            have HO346 := n3_
            have BK326 := n4_
            have BK338 := n5_
            have HB := n6_
            clear n0_ n1_ n2_ n3_ n4_ n5_ n6_
            (try clear hb)
            (try clear hb2)
            (try clear hk)
            (try clear hi)
            refine hK.out _ _ ⟨(blk_cell BK338.out 0).trans rfl, (blk_cell BK326.out 0).trans rfl⟩ (fun hHeld => ?_)
            clear hK K
            refine norm_ (a' := ?_) ?_ ?_
            rotate_left
            · show Act.put _ (some 44) _ = _
              simp only [Act.put, List.setIfInBounds_toArray, List.set_cons_zero, List.set_cons_succ, i64_w, i32_w]
              rfl
            refine pure_ (i := 4) (N := some 45) (v := ?_) (a' := ?_) #[true, true, true, true, true] rfl rfl (by kernel_rfl) (fun _ _ _ h => h) (Or.inl ⟨by rfl, ?_⟩) ?_ ?_
            rotate_left
            · intro w'
              go_simp
              with_reducible rfl
            rotate_left
            · simp only [Act.put, List.setIfInBounds_toArray, List.set_cons_zero, List.set_cons_succ, i64_w, i32_w]
              rfl
            refine done_ (by kernel_rfl) ?_
            try go_wp2
            go_ret
            exact ⟨by first | rfl | (simp [errW_none, errW_some] <;> rfl) | (simp [*, errW_none, errW_some] <;> rfl), by repeat (first | (with_reducible first | exact HB.out | apply below_alloc | apply pw_below_drewN | apply below_drew1 | refine below_set ?_ GE326.out | refine below_set ?_ GE338.out) | exact HB.out)⟩
end Go.Proofs.Yteeimoankbgcaaa.G
namespace Go.Proofs.Yteeimoankbgcaaa.G
open Go.RowKit Go.Lib Go.Proofs.YteeimoankbgcaaaW.PrintWords Go.Proofs.YteeimoankbgcaaaW.PrintLast Go.Proofs.YteeimoankbgcaaaW.PrintMore
set_option linter.unusedVariables false
set_option linter.unusedSimpArgs false
theorem m_mask (a : Nat) (ha : a < 4294967296) : bits .and .u64 (a : Int) 4294967295 = (a : Int) := by
  have h := bits_and_u64_nat a 4294967295 (by omega) (by omega)
  have e : a &&& 4294967295 = a % 4294967296 := Nat.and_two_pow_sub_one_eq_mod a 32
  rw [e, Nat.mod_eq_of_lt ha] at h
  exact h
theorem m_wrap (a : Nat) (ha : a < 18446744073709551616) : IntKind.u64.wrap (a : Int) = (a : Int) := by rw [IntKind.wrap_u64]; omega
theorem m_div (a : Nat) (ha : a < 4294967296) : (a : Int) / 4294967296 = 0 := by omega
theorem m_one : bits .and .u64 1 4294967295 = 1 := m_mask 1 (by omega)
theorem m_zero : bits .and .u64 0 4294967295 = 0 := m_mask 0 (by omega)
theorem m_wrap0 : IntKind.u64.wrap 0 = 0 := m_wrap 0 (by omega)
set_option maxHeartbeats 1000000 in
theorem bits_Mul64_small (y : Nat) (hy : y < 4294967296) (w : World) :
    Calls Try.prog 99 #[.int .u64 1, .int .u64 (y : Int)] w fun e w' => e = .returned (.tuple #[.int .u64 0, .int .u64 (y : Int)]) ∧ w' = w := by
  go_enter Try.func99, Try.ntmps99
  go_wp2
  simp only [m_one, m_mask y hy, m_div y hy, Int.one_mul, m_wrap y (by omega), m_wrap0, m_zero, Int.zero_ediv, Int.mul_zero, Int.add_zero]
  go_ret2
  exact ⟨rfl, rfl⟩
set_option maxHeartbeats 1000000 in
theorem bits_Mul_small (y : Nat) (hy : y < 4294967296) (w : World) :
    Calls Try.prog 94 #[.int .u64 1, .int .u64 (y : Int)] w fun e w' => e = .returned (.tuple #[.int .u64 0, .int .u64 (y : Int)]) ∧ w' = w := by
  go_enter Try.func94, Try.ntmps94
  go_wp2_with (go_at_call 99; refine (bits_Mul64_small y hy _).mono ?_; rintro e w' ⟨rfl, rfl⟩)
  go_ret2
  exact ⟨rfl, rfl⟩
theorem rp_size : (Try.prog.info? 3).map (·.size) = some 1 := by kernel_rfl
theorem step_copy_at {P : Program} {ops : Array Oper} {o : Oper} {a : Act} {w : World} {K : Act → World → Prop} {Q : Exit → Act → World → Prop} {E : Prop} (hg : o.guard = none) (d s : Operand) (t t' : TypeId)
    (ho : o.op = .call { callee := .builtin .copy, args := #[d, s], argTypes := #[t, t'] }) (v u : Value) (hd : a.eval d = v) (hs : a.eval s = u) {v' : Value} {w' : World}
    (hr : (Builtin.copy_ #[t, t'] o.type #[v, u]).run P w = .ok v' w') (h : K (a.put o.dst v') w') : if Region.wanted o (yielded ops a.tmps) = true then Oper.wp P o a w K Q else E := by
  have hw : Region.wanted o (yielded ops a.tmps) = true := by simp [Region.wanted, hg]
  rw [if_pos hw]
  unfold Oper.wp execOp
  simp only [ho, resolve, invoke, builtin, Sem.run_bind, Sem.run_pure, Result.andThen_ok, List.map_toArray, List.map_cons, List.map_nil, hd, hs, hr]
  exact h
def slices_Repeat_int_int.f (l0 : List Int) (a1 : Int) : Option (List Int) := if l0.length = 1 ∧ 0 ≤ a1 ∧ a1 ≤ 1000000 then some (List.replicate a1.toNat (rd l0 0)) else none
set_option maxRecDepth 100000 in
/-- The first cells once more, behind themselves. -/
theorem copy_on {W : World} {g n N cap m : Nat} {xs : List Int} {e base : Nat} {ok : Nat → Prop} (t ty : TypeId) (hu : Try.prog.underlying t = some (.slice e)) (hi : (Try.prog.info? e).map (·.size) = some 1)
    (hR : Kd.R (Kd.int .i64) e W base ok (.slice (some ⟨g, 0, none⟩) N cap) xs) (hN : xs.length = N) (hm : m = min n (N - n)) (hn : n ≤ N) (dc sc : Nat) :
    ∃ w1, (Builtin.copy_ #[t, t] ty #[.slice (some ⟨g, n, none⟩) (N - n) dc, .slice (some ⟨g, 0, none⟩) n sc]).run Try.prog W = .ok (.int .i64 (m : Int)) w1 ∧
      Kd.R (Kd.int .i64) e w1 base ok (.slice (some ⟨g, 0, none⟩) N cap) (xs.take n ++ xs.take m ++ xs.drop (n + m)) ∧ W.grownBy w1 (some g) := by
  have hown := Kd.own_of_R hR
  rw [hN] at hown
  rcases Nat.eq_zero_or_pos m with h0 | hp
  · subst h0
    refine ⟨W, ?_, ?_, World.grownBy.refl W _⟩
    · exact run_copy_none W t t ty e _ _ _ _ _ _ hu hi hm.symm
    · simpa using hR
  · rcases hown.2 with ⟨_, hx0⟩ | ⟨g', cap', cur, hv, hb, hh, hnc, hcm, hcs, htake⟩
    · omega
    cases hv
    rw [Nat.mul_one] at htake
    have hcs1 : cur.size = cap := by omega
    have hkl : (encs (Value.int .i64) (xs.take m)).length = m := by rw [encs_length, List.length_take]; omega
    have hcell : ∀ j, j < N → W.cell? ⟨g, j, none⟩ = some (.int .i64 (xs.getD j 0)) := by
      intro j hj
      rw [cell_of_row W g _ cur e (0, 0) hh]
      have h1 : (cur.toList.take N)[j]? = (encs (Value.int .i64) xs)[j]? := by rw [htake]
      rw [List.getElem?_take_of_lt hj, encs_get (d := 0) xs j (by omega)] at h1
      simpa using h1
    have hsrc : ∀ j u, (encs (Value.int .i64) (xs.take m))[j]? = some u → W.cell? ((⟨g, 0, none⟩ : Addr).add j) = some u := by
      intro j u hu
      have hj : j < (xs.take m).length := by
        rcases Nat.lt_or_ge j (xs.take m).length with h | h
        · exact h
        · rw [List.getElem?_eq_none (by rw [encs_length]; exact h)] at hu
          cases hu
      have hjm : j < m := by rw [List.length_take] at hj; omega
      rw [encs_get (d := 0) _ j hj] at hu
      rw [add_plain, hcell j (by omega), ← hu]
      simp [List.getD_eq_getElem?_getD, hjm]
    have hr := run_copy_cells (P := Try.prog) W t t ty e g n (N - n) dc ⟨g, 0, none⟩ n sc (encs (Value.int .i64) (xs.take m)) hu hi (by rw [hkl]; exact hm) hsrc
      (fun j hj => by rw [cell_of_row W g _ cur e (0, 0) hh]; simp; omega) (fun j _ => blk_frozen hh _) (by intro u hu; simp only [encs, List.mem_map] at hu; obtain ⟨q, _, rfl⟩ := hu; rfl)
    obtain ⟨cur', h3, h4, h5⟩ := setCells_row (encs (Value.int .i64) (xs.take m)) n W cur hh (by rw [hkl]; omega)
    obtain ⟨s1, s2, s3, s4⟩ := setCells_same g (encs (Value.int .i64) (xs.take m)) n W
    refine ⟨_, by rw [hr, hkl]; rfl, Kd.R_of_own (enc := Value.int .i64) (h1 := fun _ => rfl) ?_ hR.1, ⟨s1, s2, s3, by rw [s4]; exact Nat.le_refl _, fun k _ hk => setCells_far _ _ k (fun he => hk (by rw [he]))⟩⟩
    have hln : (xs.take n ++ xs.take m ++ xs.drop (n + m)).length = N := by
      rw [List.length_append, List.length_append, List.length_take, List.length_take, List.length_drop]
      omega
    rw [hln]
    refine ⟨by rw [encs_length, hln, Nat.mul_one], .inr ⟨g, cap, cur', rfl, hb, h3, hnc, hcm, by rw [h4, hcs], ?_⟩⟩
    rw [h5, hkl, Nat.mul_one, encs_append, encs_append, ← hN]
    have htk : cur.toList.take N = encs (Value.int .i64) xs := htake
    have e1 : cur.toList.take n = encs (Value.int .i64) (xs.take n) := by
      have : (cur.toList.take N).take n = (encs (Value.int .i64) xs).take n := by rw [htk]
      rw [List.take_take, Nat.min_eq_left hn] at this
      rw [this]; simp [encs, List.map_take]
    have e2 : (cur.toList.drop (n + m)).take (N - (n + m)) = encs (Value.int .i64) (xs.drop (n + m)) := by
      rw [← List.drop_take, htk]; simp [encs, List.map_drop]
    rw [e1, hN, List.take_append, List.take_of_length_le (by rw [List.length_append, hkl, encs_length, List.length_take]; omega)]
    congr 1
    rw [← e2]
    congr 1
    rw [List.length_append, hkl, encs_length, List.length_take]
    omega
set_option maxHeartbeats 4000000 in
set_option maxRecDepth 100000 in
theorem slices_Repeat_int_int.calls (A0 : Option Addr) (c0 : Nat) (l0 : List Int) (a1 : Int) (r : List Int) (w : World) (hr0 : Kd.C (Kd.int .i64) w A0 l0.length l0) (hc0 : l0.length ≤ c0) (h : slices_Repeat_int_int.f l0 a1 = some r) :
    Calls Try.prog 82 #[.slice A0 l0.length c0, .int .i64 a1] w fun e w' => ∃ v0_ : Value, e = .returned (v0_) ∧ Kd.R (Kd.int .i64) 3 w' w.heap.size (fun _ => True) v0_ r ∧ Below w.heap.size w w' := by
  unfold slices_Repeat_int_int.f at h
  split at h
  · rename_i hx
    obtain ⟨hl1, hp, hq⟩ := hx
    obtain rfl := Option.some.inj h
    clear h
    obtain ⟨x, rfl⟩ := List.length_eq_one_iff.1 hl1
    clear hl1
    obtain ⟨N, rfl⟩ : ∃ N : Nat, a1 = N := ⟨a1.toNat, by omega⟩
    have hmul := bits_Mul_small N (by omega)
    have HR0 := Aside0.mk hr0
    have HC0 := Aside0.mk hc0
    have HB := Aside0.mk (Below.refl w.heap.size w)
    have hN : N ≤ 1000000 := by omega
    clear hp hq hr0 hc0
    simp only [List.length_singleton, Int.toNat_natCast, show rd [x] 0 = x from rfl]
    go_enter Try.func82, Try.ntmps82
    go_wp2_with (first | (go_at_call 94; refine (hmul _).mono ?_; rintro e w' ⟨rfl, hw⟩; rw [hw]; clear hw) | ((with_reducible refine gate_dst (N := 30) rfl ?_); refine Kd.R_make (Kd.int .i64) _ 3 rfl (N := 30) rfl 22 _ _ rfl (N : Int) rfl rfl Try.underlying22 (.int .i64 0) 8 gv_info3 rfl (by decide) (by omega) 0 (ok := fun _ => True) (okp := fun _ => True) rfl (fun _ hk => hk) trivial (Int.natCast_nonneg _) (by rw [Int.toNat_natCast]; omega) (Below.refl _ _) (Nat.le_refl _) ?_; intro v7 w8 ho9 hb hg_ hnew_; clear hg_ hnew_; rw [Int.toNat_natCast] at ho9; have n0_ := Aside0.mk ho9; have n1_ := Aside0.mk (below_step HB.out hb); clear HB; have HO7 := n0_; have HB := n1_; clear n0_ n1_ hb ho9; obtain ⟨Ao, co, eo⟩ := Kd.R_slice HO7.out; rw [List.length_replicate] at eo; subst eo) | ((with_reducible refine gate_builtin (b := .copy) (xs := #[.tmp 31, .tmp 32]) rfl ?_); refine Kd.R_copy (enc := Value.int .i64) (h1 := fun _ => rfl) 0 (w0 := w) w.heap.size rfl (.tmp 31) (.tmp 32) 22 22 3 rfl Try.underlying22 rp_size _ _ [x] A0 1 c0 (fun _ => True) rfl rfl HO7.out ?sideC HB.out (below_size HB.out) ?_; (case sideC => exact Kd.C_below HR0.out HB.out); intro w9 hrow hb hg; have n0_ := Aside0.mk hrow; have n1_ := Aside0.mk hb; clear HB HO7 hrow hb hg; have HO7 := n0_; have HB := n1_; clear n0_ n1_))
    have HT : Aside0 (Kd.R (Kd.int .i64) 3 w9 w.heap.size (fun _ => True) (.slice Ao N co) ((List.replicate N x).take (min 1 N) ++ (List.replicate N 0).drop (min 1 N))) := by
      have := HO7.out
      rw [List.length_replicate] at this
      have e : ([x] : List Int).take (min 1 N) = (List.replicate N x).take (min 1 N) := by
        cases N with
        | zero => simp
        | succ N => simp [show min 1 (N + 1) = 1 by omega, List.replicate_succ]
      rw [e] at this
      exact ⟨this⟩
    clear HO7
    have hlo : N ≤ 1000000 := hN
    go_loopg [8] N (fun kq v8 w' => ∃ (n : Nat) (xs : List Int), v8 = .int .i64 (n : Int) ∧ n ≤ N ∧ N - n ≤ kq ∧ (0 < N → 0 < n) ∧ Aside0 (xs.length = N) ∧ Aside0 (xs.take n = List.replicate n x) ∧ Aside0 (Kd.R (Kd.int .i64) 3 w' w.heap.size (fun _ => True) (.slice Ao N co) xs) ∧ Aside0 (Below w.heap.size w w'))
    case atStart => exact ⟨min 1 N, _, rfl, by omega, by omega, by omega, ⟨by simp; omega⟩, ⟨by rw [List.take_append, List.take_take, List.length_take, List.length_replicate, Nat.min_self, Nat.min_eq_left (Nat.min_le_right 1 N), Nat.sub_self, List.take_zero, List.append_nil, List.take_replicate, Nat.min_eq_left (Nat.min_le_right 1 N)]⟩, HT, HB⟩
    case round =>
      clear HT HB
      obtain ⟨n, xs, rfl, hn, hg, hpos, HL, HTk, HO, HB⟩ := hrel
      by_cases hlt : n < N
      · have hn0 : 0 < n := hpos (by omega)
        obtain ⟨go, cap, eo, gb, gl, cl, hcl⟩ := Kd.R_form HO.out (by rw [HL.out]; omega)
        injection eo with e1 e2 e3
        subst e1
        subst e3
        clear e2
        have hltz : (n : Int) < (N : Int) := by omega
        obtain ⟨m, hm⟩ : ∃ m, m = min n (N - n) := ⟨_, rfl⟩
        have hm1 : 0 < m ∧ n + m ≤ N := by omega
        have HM := Aside0.mk hm
        have hco : N ≤ co := by have := (Kd.R_reads' HO.out).2.1; omega
        have hne : ¬ co = n := by omega
        have hnc : n ≤ co := by omega
        obtain ⟨w9, hr, hrow, hgr⟩ := copy_on (m := m) 22 3 Try.underlying22 rp_size (Kd.R_drew HO.out) HL.out hm hn (co - n) co
        have HR9 := Aside0.mk hr
        have HO9 := Aside0.mk hrow
        have HB9 := Aside0.mk (pw_below_grown (below_drew1 HB.out) _ (below_size (below_drew1 HB.out)) hgr (fun k e => by cases e; exact gb))
        clear hm hr hrow hgr HO HB
        go_wp2
        go_region_law (refine step_copy_at rfl (.tmp 41) (.tmp 44) 22 22 rfl _ _ (by simp [Act.eval, Act.put]) (by simp [Act.eval, Act.put]) HR9.out ?_)
        go_wp2
        have hw : IntKind.i64.wrap ((n : Int) + (m : Int)) = ((n + m : Nat) : Int) := by rw [IntKind.wrap_i64]; omega
        go_roundg (N - (n + m))
        case measure => omega
        case rel =>
          refine ⟨n + m, _, by first | exact congrArg _ hw | (rw [hw]) | (simp [hw]), by omega, by omega, by omega, ⟨?_⟩, ⟨?_⟩, HO9, HB9⟩
          · have := HL.out
            simp only [List.length_append, List.length_take, List.length_drop]; omega
          · have e1 : xs.take m = List.replicate m x := by
              have := congrArg (List.take m) HTk.out
              rw [List.take_take, Nat.min_eq_left (by have := HM.out; omega), List.take_replicate, Nat.min_eq_left (by have := HM.out; omega)] at this
              exact this
            rw [HTk.out, e1, List.replicate_append_replicate, List.take_append, List.take_of_length_le (by simp)]
            simp
      · have : n = N := by omega
        have hltz : ¬ (n : Int) < (N : Int) := by omega
        have HE := Aside0.mk this
        clear this hlt
        go_wp2
        go_ret
        refine ⟨_, rfl, ?_, HB.out⟩
        have e : xs = List.replicate N x := by rw [← HE.out, ← HTk.out, HE.out, List.take_of_length_le (by rw [HL.out]; exact Nat.le_refl _)]
        rw [← e]
        exact HO.out
  · cases h
end Go.Proofs.Yteeimoankbgcaaa.G
namespace Go.Proofs.Yteeimoankbgcaaa.G
open Go.RowKit Go.Proofs.YteeimoankbgcaaaW.PrintWords Go.Proofs.YteeimoankbgcaaaW.PrintLast Go.Proofs.YteeimoankbgcaaaW.PrintMore
set_option linter.unusedVariables false
set_option linter.unusedSimpArgs false
theorem wrap_id {x : Int} (h1 : -9223372036854775808 ≤ x) (h2 : x ≤ 9223372036854775807) : wrap64 x = x := by unfold wrap64; omega
theorem wrap_next {i n : Nat} (h : i < n) (hn : n ≤ 4611686018427387904) : wrap64 ((i : Int) + 1) = ((i + 1 : Nat) : Int) := by rw [wrap_id (by omega) (by omega)]; rfl
theorem succ_of {d k : Nat} (h : d < k) : ∃ m, k = m + 1 := ⟨k - 1, by omega⟩
theorem rd_nat (l : List Int) (i : Nat) : rd l (i : Int) = l.getD i 0 := by unfold rd; rw [Int.toNat_natCast]
theorem take_succ_getD {l : List Int} {i : Nat} (h : i < l.length) : l.take (i + 1) = l.take i ++ [l.getD i 0] := by
  rw [List.take_succ_eq_append_getElem h, List.getD_eq_getElem?_getD, List.getElem?_eq_getElem h]; rfl
theorem drop_getD {l : List Int} {i : Nat} (h : i < l.length) : l.drop i = l.getD i 0 :: l.drop (i + 1) := by
  rw [List.drop_eq_getElem_cons h, List.getD_eq_getElem?_getD, List.getElem?_eq_getElem h]; rfl
theorem Ev.of_all {α : Type} {g : Nat → Option α} {r : α} (K : Nat) (h : ∀ k, K < k → g k = some r) : Ev g r := ⟨K + 1, fun k hk => h k (by omega)⟩
/-- A loop that counts up: its state at each count, what is left behind the last one. -/
theorem Ev.up {σ ρ : Type} (n : Nat) (S : Nat → σ) (L : Nat → σ → Int → Option ρ) (r : ρ)
    (hstep : ∀ i, i < n → Ev (fun k => L k (S (i + 1)) ((i + 1 : Nat) : Int)) r → Ev (fun k => L k (S i) (i : Int)) r)
    (hend : Ev (fun k => L k (S n) (n : Int)) r) : ∀ m, m ≤ n → Ev (fun k => L k (S m) (m : Int)) r := by
  intro m hm
  have key : ∀ d m, m + d = n → Ev (fun k => L k (S m) (m : Int)) r := by
    intro d
    induction d with
    | zero => intro m hd; obtain rfl : m = n := by omega
              exact hend
    | succ d ih => intro m hd; exact hstep m (by omega) (ih (m + 1) (by omega))
  exact key (n - m) m (by omega)
theorem Ev.up0 {σ ρ : Type} (n : Nat) (S : Nat → σ) (L : Nat → σ → Int → Option ρ) (r : ρ)
    (hstep : ∀ i, i < n → Ev (fun k => L k (S (i + 1)) ((i + 1 : Nat) : Int)) r → Ev (fun k => L k (S i) (i : Int)) r)
    (hend : Ev (fun k => L k (S n) (n : Int)) r) : Ev (fun k => L k (S 0) 0) r := Ev.up n S L r hstep hend 0 (Nat.zero_le _)
/-- A round that needs no rounds of others. -/
theorem Ev.one {α : Type} {g f : Nat → Option α} {r : α} (k : Ev f r) (h : ∀ k, g (k + 1) = f k) : Ev g r := Ev.step h k
theorem Ev.end_ {α : Type} {g : Nat → Option α} {r : α} (h : ∀ k, g (k + 1) = some r) : Ev g r := Ev.step h (Ev.now r)
/-- Places that were written one by one: what is new, and what is still old. -/
def mixed (R o : List Int) (i : Nat) : List Int := R.take i ++ o.drop i
theorem toIntS_l0 (x0 : List Int) (hn : x0.length ≤ 4611686018427387904) : ∀ (d k i : Nat) (x3 : List Int), i + d = x0.length → d < k → x3.length = x0.length → x3.take i = x0.take i → laws_toIntS.l0 k x0 x3 i = some x0 := by
  intro d
  induction d with
  | zero =>
    intro k i x3 hd hk hl ht
    obtain ⟨k, rfl⟩ := succ_of hk
    have hi : i = x0.length := by omega
    rw [laws_toIntS.l0, if_neg (by omega)]
    rw [hi, List.take_of_length_le (by omega), List.take_of_length_le (by omega)] at ht
    rw [ht]
  | succ d ih =>
    intro k i x3 hd hk hl ht
    obtain ⟨k, rfl⟩ := succ_of hk
    rw [laws_toIntS.l0, if_pos (by omega), if_pos (by omega), if_pos (by omega), wrap_next (n := x0.length) (by omega) hn, rd_nat, Int.toNat_natCast]
    apply ih k (i + 1) _ (by omega) (by omega) (by simpa using hl)
    rw [take_succ_getD (l := x0) (i := i) (by omega), ← ht]
    apply List.ext_getElem
    · simp; omega
    · intro j h1 h2
      simp only [List.length_take, List.length_set] at h1
      rw [List.getElem_take, List.getElem_set, List.getElem_append]
      by_cases e : i = j
      · subst e; simp; intro h; omega
      · have : j < i := by omega
        simp [e, this]; omega
theorem toIntS_ev (l : List Int) (hn : l.length ≤ 35184372088832) : Ev (fun k => laws_toIntS.f k l) l := by
  refine Ev.of_all l.length fun k hk => ?_
  unfold laws_toIntS.f
  rw [if_pos (by omega), if_pos (by omega)]
  exact toIntS_l0 l (by omega) l.length k 0 _ (by omega) hk (by simp) (by simp)
theorem eqIntS_l0 (a b : List Int) (hl : a.length = b.length) (hn : a.length ≤ 4611686018427387904) : ∀ (d k i : Nat), i + d = a.length → d < k → laws_eqIntS.l0 k a b i = some (decide (a.drop i = b.drop i)) := by
  intro d
  induction d with
  | zero =>
    intro k i hd hk
    obtain ⟨k, rfl⟩ := succ_of hk
    rw [laws_eqIntS.l0, if_neg (by omega), List.drop_of_length_le (by omega), List.drop_of_length_le (by omega)]; simp
  | succ d ih =>
    intro k i hd hk
    obtain ⟨k, rfl⟩ := succ_of hk
    rw [laws_eqIntS.l0, if_pos (by omega), if_pos (by omega), if_pos (by omega), wrap_next (n := a.length) (by omega) hn, rd_nat, rd_nat, ih k (i + 1) (by omega) (by omega), drop_getD (l := a) (i := i) (by omega), drop_getD (l := b) (i := i) (by omega)]
    by_cases e : a.getD i 0 = b.getD i 0
    · rw [if_pos e, e]; simp
    · rw [if_neg e]; simp only [List.cons.injEq, e, false_and, decide_false]
theorem eqIntS_ev (a b : List Int) (hn : a.length ≤ 4611686018427387904) : Ev (fun k => laws_eqIntS.f k a b) (decide (a = b)) := by
  refine Ev.of_all a.length fun k hk => ?_
  unfold laws_eqIntS.f
  by_cases hl : a.length = b.length
  · rw [if_pos (by omega), show (0 : Int) = ((0 : Nat) : Int) from rfl, eqIntS_l0 a b hl hn a.length k 0 (by omega) hk]; rfl
  · rw [if_neg (by omega)]
    have : a ≠ b := fun e => hl (by rw [e])
    simp [this]
/-- Numbers that rise from m on. -/
def rise (n : Nat) (m : Int) : List Int := (List.range n).map fun (j : Nat) => m + j
theorem getD_rise (n : Nat) (m : Int) (j : Nat) (h : j < n) : (rise n m).getD j 0 = m + j := by
  simp [rise, List.getD_eq_getElem?_getD, List.getElem?_map, List.getElem?_range h]
theorem markIntS_l0 (n : Nat) (hn : n ≤ 1152921504606846976) (m : Int) (hm : 0 ≤ m ∧ m ≤ 1152921504606846976) : ∀ (d k i : Nat) (a : List Int), a.length = n → i + d = n → d < k → a.take i = rise i m → laws_markIntS.l0 k a (m + i) i = some (m + n, rise n m) := by
  intro d
  induction d with
  | zero =>
    intro k i a hl hd hk ht
    obtain ⟨k, rfl⟩ := succ_of hk
    obtain rfl : i = n := by omega
    rw [List.take_of_length_le (by omega)] at ht
    rw [laws_markIntS.l0, if_neg (by omega), ht]
  | succ d ih =>
    intro k i a hl hd hk ht
    obtain ⟨k, rfl⟩ := succ_of hk
    rw [laws_markIntS.l0, if_pos (by omega), if_pos (by omega), wrap_next (n := n) (by omega) (by omega), Int.toNat_natCast, wrap_id (x := m + i + 1) (by omega) (by omega)]
    have := ih k (i + 1) (a.set i (m + i)) (by simpa using hl) (by omega) (by omega) (by
      apply List.ext_getElem
      · simp [rise]; omega
      · intro j h1 h2
        simp only [List.length_take, List.length_set] at h1
        simp only [List.getElem_take, List.getElem_set, rise, List.getElem_map, List.getElem_range]
        by_cases e : i = j
        · subst e; simp
        · have hj : j < i := by omega
          have : (a.take i)[j]? = (rise i m)[j]? := by rw [ht]
          rw [List.getElem?_eq_getElem (by simp; omega), List.getElem?_eq_getElem (by simp [rise]; omega)] at this
          simp [rise] at this
          simp [e, this])
    rw [show m + (i : Int) + 1 = m + ((i + 1 : Nat) : Int) by push_cast; omega]
    exact this
theorem markIntS_ev (a : List Int) (m : Int) (hm : 0 ≤ m ∧ m ≤ 1152921504606846976) (hn : a.length ≤ 1152921504606846976) : Ev (fun k => laws_markIntS.f k a m) (m + a.length, rise a.length m) := by
  refine Ev.of_all a.length fun k hk => ?_
  unfold laws_markIntS.f
  have := markIntS_l0 a.length hn m hm a.length k 0 a rfl (by omega) hk (by simp [rise])
  simpa using this
theorem heldIntS_l0 (n : Nat) (hn : n ≤ 1152921504606846976) (m : Int) (hm : 0 ≤ m ∧ m ≤ 1152921504606846976) : ∀ (d k i : Nat), i + d = n → d < k → laws_heldIntS.l0 k (rise n m) (m + i) i = some (m + n) := by
  intro d
  have hl : (rise n m).length = n := by simp [rise]
  induction d with
  | zero =>
    intro k i hd hk
    obtain ⟨k, rfl⟩ := succ_of hk
    obtain rfl : i = n := by omega
    rw [laws_heldIntS.l0, if_neg (by omega)]
  | succ d ih =>
    intro k i hd hk
    obtain ⟨k, rfl⟩ := succ_of hk
    rw [laws_heldIntS.l0, if_pos (by omega), if_pos (by omega), rd_nat, getD_rise _ _ _ (by omega), if_pos rfl, wrap_next (n := n) (by omega) (by omega), wrap_id (x := m + i + 1) (by omega) (by omega)]
    rw [show m + (i : Int) + 1 = m + ((i + 1 : Nat) : Int) by push_cast; omega]
    exact ih k (i + 1) (by omega) (by omega)
theorem heldIntS_ev (n : Nat) (m : Int) (hm : 0 ≤ m ∧ m ≤ 1152921504606846976) (hn : n ≤ 1152921504606846976) : Ev (fun k => laws_heldIntS.f k (rise n m) m) (m + n) := by
  refine Ev.of_all n fun k hk => ?_
  unfold laws_heldIntS.f
  have := heldIntS_l0 n hn m hm n k 0 (by omega) hk
  simpa using this
theorem l1In_eq (a b c : Int) : spec_l1In.f a b c = some (decide (b ≤ a ∧ a ≤ c)) := by
  unfold spec_l1In.f
  split
  · rename_i h; congr 1; rw [Bool.eq_iff_iff]; simp; omega
  · rename_i h; congr 1; rw [Bool.eq_iff_iff]; simp; omega
theorem l1All_l0 (l : List Int) (lo hi : Int) (hn : l.length ≤ 4611686018427387904) : ∀ (d k i : Nat), i + d = l.length → d < k → spec_l1All.l0 k lo hi l (l.length : Int) i = some ((l.drop i).all fun x => decide (lo ≤ x ∧ x ≤ hi)) := by
  intro d
  induction d with
  | zero =>
    intro k i hd hk
    obtain ⟨k, rfl⟩ := succ_of hk
    rw [spec_l1All.l0, if_neg (by omega), List.drop_of_length_le (by omega)]; rfl
  | succ d ih =>
    intro k i hd hk
    obtain ⟨k, rfl⟩ := succ_of hk
    rw [spec_l1All.l0, if_pos (by omega), if_pos (by omega), if_pos (by omega), l1In_eq, Option.bind_some, rd_nat, wrap_next (n := l.length) (by omega) hn, ih k (i + 1) (by omega) (by omega), drop_getD (l := l) (i := i) (by omega), List.all_cons]
    split
    · rename_i h; rw [h, Bool.true_and]
    · rename_i h; rw [Bool.not_eq_true] at h; rw [h, Bool.false_and]
theorem l1All_ev (l : List Int) (lo hi : Int) (hn : l.length ≤ 4611686018427387904) : Ev (fun k => spec_l1All.f k l lo hi) (l.all fun x => decide (lo ≤ x ∧ x ≤ hi)) := by
  refine Ev.of_all l.length fun k hk => ?_
  have := l1All_l0 l lo hi hn l.length k 0 (by omega) hk
  simpa [spec_l1All.f] using this
theorem nneg (n : Nat) : ((1 : Int) + (n : Int) < 0) = False := by simp; omega
theorem eqTable_ev (a b : List Int) (hn : a.length ≤ 4611686018427387904) : Ev (fun k => laws_eqTable.f k a b) (decide (a = b)) := by
  unfold laws_eqTable.f
  refine Ev.bind (eqIntS_ev a b hn) ?_
  cases decide (a = b) with
  | true => simp only [if_true]; exact Ev.now _
  | false => simp only [Bool.false_eq_true, if_false]; exact Ev.now _
theorem markTable_ev (a : List Int) (m : Int) (hm : 0 ≤ m ∧ m ≤ 1152921504606846976) (hn : a.length ≤ 1152921504606846976) : Ev (fun k => laws_markTable.f k a m) (m + a.length, rise a.length m) := by
  unfold laws_markTable.f
  exact Ev.bind (markIntS_ev a m hm hn) (Ev.now _)
theorem toTable_ev (l : List Int) (hn : l.length ≤ 35184372088832) : Ev (fun k => laws_toTable.f k l) l := by
  unfold laws_toTable.f
  exact Ev.bind (toIntS_ev l hn) (Ev.now _)
theorem between_eq (a b c : Int) : impl_between.f a b c = some (decide (b ≤ a ∧ a ≤ c)) := by
  unfold impl_between.f
  by_cases h : a ≥ b
  · rw [if_pos h]; congr 1; simp; omega
  · rw [if_neg h]; congr 1; simp; omega
theorem isSize_eq (a : Int) : impl_isSize.f a = some (decide (2 ≤ a ∧ a ≤ 12)) := by unfold impl_isSize.f; rw [between_eq]; rfl
theorem szTable_eq (l : List Int) (hn : l.length ≤ 4611686018427387904) : laws_szTable.f l 1048576 = some (if (l.length : Int) > 1048576 then -1 else 1048576 - (l.length : Int)) := by
  unfold laws_szTable.f laws_szIntS.f
  rw [wrap_id (x := 1048576 - (l.length : Int)) (by omega) (by omega)]
  by_cases h : (l.length : Int) > 1048576
  · rw [if_pos (by omega), if_pos h]; rfl
  · rw [if_neg (by omega), if_neg h, Option.bind_some, if_neg (by omega)]
theorem l1Has_l0 (x : List Int) (a : Int) (hn : x.length ≤ 4611686018427387904) : ∀ (d i : Nat), i + d = x.length → Ev (fun k => spec_l1Has.l0 k a x (x.length : Int) i) (decide (a ∈ x.drop i)) := by
  intro d
  induction d with
  | zero =>
    intro i hd
    refine Ev.end_ fun k => ?_
    rw [spec_l1Has.l0, if_neg (by omega), List.drop_eq_nil_of_le (by omega)]
    simp
  | succ d ih =>
    intro i hd
    have e1 := drop_getD (l := x) (i := i) (by omega)
    by_cases h : x.getD i 0 = a
    · refine Ev.end_ fun k => ?_
      rw [spec_l1Has.l0, if_pos (by omega), if_pos (by omega), if_pos (by omega), rd_nat, if_pos h, e1, h, decide_eq_true (List.mem_cons_self)]
    · refine Ev.one (f := fun k => spec_l1Has.l0 k a x (x.length : Int) ((i + 1 : Nat) : Int)) ?_ fun k => ?_
      · have := ih (i + 1) (by omega)
        have e : decide (a ∈ x.drop i) = decide (a ∈ x.drop (i + 1)) := by
          rw [e1]
          have : ¬ a = x.getD i 0 := fun e => h e.symm
          simp only [List.mem_cons, this, false_or]
        rw [e]; exact this
      · rw [spec_l1Has.l0, if_pos (by omega), if_pos (by omega), if_pos (by omega), rd_nat, if_neg h, wrap_next (n := x.length) (by omega) hn]
theorem l1Has_ev (x : List Int) (a : Int) (hn : x.length ≤ 4611686018427387904) : Ev (fun k => spec_l1Has.f k x a) (decide (a ∈ x)) := by
  unfold spec_l1Has.f
  have := l1Has_l0 x a hn x.length 0 (by omega)
  simpa using this
/-- The first place of a number, -1 where it is not. -/
def ixF (l : List Int) (a : Int) : Nat → Nat → Int
  | 0, _ => -1
  | d + 1, i => if l.getD i 0 = a then (i : Int) else ixF l a d (i + 1)
theorem ixF_spec (l : List Int) (a : Int) : ∀ (d i : Nat), i + d = l.length → (ixF l a d i = -1 ∧ a ∉ l.drop i) ∨ (∃ j : Nat, ixF l a d i = j ∧ j < l.length ∧ l.getD j 0 = a ∧ a ∈ l.drop i)
  | 0, i, h => by left; rw [List.drop_of_length_le (by omega)]; exact ⟨rfl, by simp⟩
  | d + 1, i, h => by
    rw [ixF, drop_getD (by omega)]
    by_cases c : l.getD i 0 = a
    · right; rw [if_pos c]; exact ⟨i, rfl, by omega, c, by rw [c]; simp⟩
    · rw [if_neg c]
      rcases ixF_spec l a d (i + 1) (by omega) with ⟨h1, h2⟩ | ⟨j, h1, h2, h3, h4⟩
      · left; exact ⟨h1, by simp only [List.mem_cons, not_or]; exact ⟨fun e => c e.symm, h2⟩⟩
      · right; exact ⟨j, h1, h2, h3, by simp [h4]⟩
theorem index_l0 (l : List Int) (a : Int) (hn : l.length ≤ 4611686018427387904) : ∀ (d i : Nat), i + d = l.length → Ev (fun k => slices_Index_int_int.l0 k l a (l.length : Int) i) (ixF l a d i) := by
  intro d
  induction d with
  | zero =>
    intro i hd
    exact Ev.end_ fun k => by rw [slices_Index_int_int.l0, if_neg (by omega)]; rfl
  | succ d ih =>
    intro i hd
    rw [ixF]
    by_cases c : l.getD i 0 = a
    · rw [if_pos c]
      refine Ev.end_ fun k => ?_
      rw [slices_Index_int_int.l0, if_pos (by omega), if_pos (by omega), if_pos (by omega), rd_nat, if_pos c.symm]
    · rw [if_neg c]
      refine Ev.one (ih (i + 1) (by omega)) fun k => ?_
      rw [slices_Index_int_int.l0, if_pos (by omega), if_pos (by omega), if_pos (by omega), rd_nat, if_neg (fun e => c e.symm), wrap_next (n := l.length) (by omega) hn]
theorem index_ev (l : List Int) (a : Int) (hn : l.length ≤ 4611686018427387904) : Ev (fun k => slices_Index_int_int.f k l a) (ixF l a l.length 0) := by
  unfold slices_Index_int_int.f
  exact index_l0 l a hn l.length 0 (by omega)
theorem containsI_ev (l : List Int) (a : Int) (hn : l.length ≤ 4611686018427387904) : Ev (fun k => slices_Contains_int_int.f k l a) (decide (a ∈ l)) := by
  unfold slices_Contains_int_int.f
  refine Ev.bind (index_ev l a hn) ?_
  have e : decide (ixF l a l.length 0 ≥ 0) = decide (a ∈ l) := by
    rcases ixF_spec l a l.length 0 (by omega) with ⟨h1, h2⟩ | ⟨j, h1, h2, h3, h4⟩
    · rw [List.drop_zero] at h2
      rw [h1, decide_eq_false h2]; decide
    · rw [List.drop_zero] at h4
      rw [h1, decide_eq_true h4]; exact decide_eq_true (by omega)
  rw [e]
  exact Ev.now _
def costN (n key at_ : Nat) : Nat := (at_ + n - key % n) % n
theorem cost_arith {n key at_ : Nat} (hn : 0 < n) (hn2 : n ≤ 1000) (hk : key ≤ 1000) (ha : at_ < n) : Int.tmod (wrap64 ((wrap64 ((at_ : Int) - (Int.tmod (key : Int) (n : Int)))) + (n : Int))) (n : Int) = (costN n key at_ : Nat) := by
  have e1 : Int.tmod (key : Int) (n : Int) = ((key % n : Nat) : Int) := rfl
  have hlt := Nat.mod_lt key hn
  rw [e1, wrap_id (x := (at_ : Int) - ((key % n : Nat) : Int)) (by omega) (by omega), wrap_id (by omega) (by omega)]
  rw [show (at_ : Int) - ((key % n : Nat) : Int) + (n : Int) = ((at_ + n - key % n : Nat) : Int) by omega]
  rfl
theorem costN_lt {n key at_ : Nat} (hn : 0 < n) : costN n key at_ < n := Nat.mod_lt _ hn
theorem prCost_eq {n key at_ : Nat} (hn : 0 < n) (hn2 : n ≤ 1000) (hk : key ≤ 1000) (ha : at_ < n) : spec_prCost.f (key : Int) (at_ : Int) (n : Int) = some ((costN n key at_ : Nat) : Int) := by
  unfold spec_prCost.f
  rw [if_neg (by omega), cost_arith hn hn2 hk ha]
theorem tcost_eq {l : List Int} {key at_ : Nat} (hn2 : l.length ≤ 1000) (hk : key ≤ 1000) (ha : at_ < l.length) (hg : l.getD at_ 0 = (key : Int)) : impl_Table_cost.f l (at_ : Int) = some ((costN l.length key at_ : Nat) : Int) := by
  unfold impl_Table_cost.f
  rw [if_pos (by omega), if_pos (by omega), if_neg (by omega), rd_nat, hg, cost_arith (by omega) hn2 hk ha]
/-- No free cell among the key's c cells from the s-th on. -/
def wayF (l : List Int) (key : Nat) : Nat → Nat → Bool
  | _, 0 => true
  | s, c + 1 => decide (0 ≤ l.getD ((key + s) % l.length) 0) && wayF l key (s + 1) c
def okCell (l : List Int) (i : Nat) : Bool := decide (l.getD i 0 < 0) || (!decide (l.getD i 0 ∈ l.take i) && wayF l (l.getD i 0).toNat 0 (costN l.length (l.getD i 0).toNat i))
def okFrom (l : List Int) : Nat → Nat → Bool
  | 0, _ => true
  | d + 1, i => okCell l i && okFrom l d (i + 1)
def tblB (l : List Int) : Bool := decide (2 ≤ (l.length : Int) ∧ (l.length : Int) ≤ 12) && (l.all fun x => decide (-1 ≤ x ∧ x ≤ 999)) && decide ((-1 : Int) ∈ l) && okFrom l l.length 0
/-- The cell that lies so far back is the key's own one, so far on. -/
theorem back_cell {n key at_ c j : Nat} (hn : 0 < n) (ha : at_ < n) (hc : costN n key at_ = c) (hj : j ≤ c) (h1 : 1 ≤ j) : (at_ + n - j) % n = (key + (c - j)) % n := by
  have hk := Nat.mod_lt key hn
  have hcn : c < n := by rw [← hc]; exact costN_lt hn
  have e : (key + (c - j)) % n = (key % n + (c - j)) % n := (Nat.mod_add_mod key n (c - j)).symm
  rw [e]
  unfold costN at hc
  rcases Nat.lt_or_ge at_ (key % n) with h | h
  · rw [Nat.mod_eq_of_lt (show at_ + n - key % n < n by omega)] at hc
    rw [show key % n + (c - j) = at_ + n - j by omega]
  · have : (at_ + n - key % n) % n = at_ - key % n := by
      rw [show at_ + n - key % n = (at_ - key % n) + n by omega, Nat.add_mod_right, Nat.mod_eq_of_lt (by omega)]
    rw [this] at hc
    rw [show at_ + n - j = (key % n + (c - j)) + n by omega, Nat.add_mod_right]
end Go.Proofs.Yteeimoankbgcaaa.G
namespace Go.Proofs.Yteeimoankbgcaaa.G
open Go.RowKit Go.Proofs.YteeimoankbgcaaaW.PrintWords Go.Proofs.YteeimoankbgcaaaW.PrintLast Go.Proofs.YteeimoankbgcaaaW.PrintMore
set_option linter.unusedVariables false
set_option linter.unusedSimpArgs false
section
variable (l : List Int) (hn : 2 ≤ l.length) (hn2 : l.length ≤ 12) (hr : ∀ j, j < l.length → -1 ≤ l.getD j 0 ∧ l.getD j 0 ≤ 999)
include hn hn2 hr
theorem sp_way (key i c : Nat) (hk : key ≤ 1000) (hi : i < l.length) (hc : costN l.length key i = c) (r : Bool) (h : Ev (fun k => spec_prGood.l0 k (l.length : Int) l (l.length : Int) (wrap64 ((i : Int) + 1)) l) r) : ∀ (j : Nat), j ≤ c →
    Ev (fun k => spec_prGood.l1 k (l.length : Int) (i : Int) (j : Int) l (l.length : Int) (i : Int) l) (if wayF l key (c - j) j = true then r else false) := by
  have hcn : c < l.length := by rw [← hc]; exact costN_lt (by omega)
  intro j
  induction j with
  | zero =>
    intro _
    rw [wayF, if_pos rfl]
    exact Ev.one h fun k => by rw [spec_prGood.l1, if_neg (by omega)]
  | succ j ih =>
    intro hj
    have hcell := back_cell (n := l.length) (by omega) hi hc hj (by omega)
    have e1 : Int.tmod (wrap64 ((wrap64 ((i : Int) - ((j + 1 : Nat) : Int))) + (l.length : Int))) (l.length : Int) = (((key + (c - (j + 1))) % l.length : Nat) : Int) := by
      rw [wrap_id (x := (i : Int) - ((j + 1 : Nat) : Int)) (by omega) (by omega), wrap_id (by omega) (by omega), ← hcell, show (i : Int) - ((j + 1 : Nat) : Int) + (l.length : Int) = ((i + l.length - (j + 1) : Nat) : Int) by omega]
      rfl
    have hm := Nat.mod_lt (key + (c - (j + 1))) (show 0 < l.length by omega)
    have hv := hr _ hm
    rw [wayF, show c - (j + 1) + 1 = c - j by omega]
    by_cases hf : l.getD ((key + (c - (j + 1))) % l.length) 0 = -1
    · rw [show decide (0 ≤ l.getD ((key + (c - (j + 1))) % l.length) 0) = false from decide_eq_false (by omega), Bool.false_and, if_neg (by decide)]
      refine Ev.end_ fun k => ?_
      rw [spec_prGood.l1, if_pos (by omega), if_neg (by omega), e1, if_pos (by omega), if_pos (by omega), rd_nat, if_pos hf]
    · rw [show decide (0 ≤ l.getD ((key + (c - (j + 1))) % l.length) 0) = true from decide_eq_true (by omega), Bool.true_and]
      refine Ev.one (ih (by omega)) fun k => ?_
      rw [spec_prGood.l1, if_pos (by omega), if_neg (by omega), e1, if_pos (by omega), if_pos (by omega), rd_nat, if_neg hf, wrap_id (x := ((j + 1 : Nat) : Int) - 1) (by omega) (by omega), show ((j + 1 : Nat) : Int) - 1 = (j : Int) by omega]
theorem im_way (key i c : Nat) (hk : key ≤ 1000) (hi : i < l.length) (hc : c < l.length) (r : Bool) (h : Ev (fun k => impl_isTable.l0 k l (l.length : Int) (wrap64 ((i : Int) + 1)) l) r) : ∀ (d s : Nat), s + d = c →
    Ev (fun k => impl_isTable.l1 k (key : Int) l (l.length : Int) (i : Int) (c : Int) (s : Int) l) (if wayF l key s d = true then r else false) := by
  have hr0 := hr
  intro d
  induction d with
  | zero =>
    intro s hs
    rw [wayF, if_pos rfl]
    exact Ev.one h fun k => by rw [impl_isTable.l1, if_neg (by omega)]
  | succ d ih =>
    intro s hs
    have e1 : Int.tmod (wrap64 ((key : Int) + (s : Int))) (l.length : Int) = (((key + s) % l.length : Nat) : Int) := by
      rw [wrap_id (by omega) (by omega), show (key : Int) + (s : Int) = ((key + s : Nat) : Int) by omega]
      rfl
    have hm := Nat.mod_lt (key + s) (show 0 < l.length by omega)
    rw [wayF]
    by_cases hf : l.getD ((key + s) % l.length) 0 < 0
    · rw [show decide (0 ≤ l.getD ((key + s) % l.length) 0) = false from decide_eq_false (by omega), Bool.false_and, if_neg (by decide)]
      refine Ev.end_ fun k => ?_
      rw [impl_isTable.l1, if_pos (by omega), if_neg (by omega), e1, if_pos (by omega), if_pos (by omega), rd_nat, if_pos hf]
    · rw [show decide (0 ≤ l.getD ((key + s) % l.length) 0) = true from decide_eq_true (by omega), Bool.true_and]
      refine Ev.one (ih (s + 1) (by omega)) fun k => ?_
      rw [impl_isTable.l1, if_pos (by omega), if_neg (by omega), e1, if_pos (by omega), if_pos (by omega), rd_nat, if_neg hf, wrap_next (n := 1000) (by omega) (by omega)]
theorem sp_good_l0 : ∀ (d i : Nat), i + d = l.length → Ev (fun k => spec_prGood.l0 k (l.length : Int) l (l.length : Int) (i : Int) l) (okFrom l d i) := by
  intro d
  induction d with
  | zero =>
    intro i hd
    exact Ev.end_ fun k => by rw [spec_prGood.l0, if_neg (by omega)]; rfl
  | succ d ih =>
    intro i hd
    have hi : i < l.length := by omega
    have hv := hr i hi
    rw [okFrom, okCell]
    by_cases hf : l.getD i 0 = -1
    · rw [show decide (l.getD i 0 < 0) = true from decide_eq_true (by omega), Bool.true_or, Bool.true_and]
      refine Ev.one (ih (i + 1) (by omega)) fun k => ?_
      rw [spec_prGood.l0, if_pos (by omega), if_pos (by omega), if_pos (by omega), rd_nat, if_pos hf, wrap_next (n := l.length) hi (by omega)]
    · rw [show decide (l.getD i 0 < 0) = false from decide_eq_false (by omega), Bool.false_or]
      obtain ⟨key, hkey⟩ : ∃ key : Nat, l.getD i 0 = key := ⟨(l.getD i 0).toNat, by omega⟩
      rw [hkey, Int.toNat_natCast]
      refine Ev.step (f := fun k => (spec_l1Has.f k (l.take i) (key : Int)).bind fun t169 => (if t169 = true then (some false) else (spec_prGood.l1 k (l.length : Int) (i : Int) ((costN l.length key i : Nat) : Int) l (l.length : Int) (i : Int) l))) (fun k => by
        rw [spec_prGood.l0, if_pos (by omega), if_pos (by omega), if_pos (by omega), rd_nat, if_neg hf, if_pos (by omega), Int.toNat_natCast, hkey, prCost_eq (by omega) (by omega) (by omega) hi]; rfl) ?_
      refine Ev.bind (l1Has_ev _ _ (by simp; omega)) ?_
      cases hh : decide ((key : Int) ∈ l.take i) with
      | true => simp only [if_true, Bool.not_true, Bool.false_and]; exact Ev.now _
      | false =>
        simp only [Bool.false_eq_true, if_false, Bool.not_false, Bool.true_and]
        have h0 := ih (i + 1) (by omega)
        have hw := sp_way l hn hn2 hr key i (costN l.length key i) (by omega) hi rfl _ (by rw [wrap_next (n := l.length) hi (by omega)]; exact h0) (costN l.length key i) (Nat.le_refl _)
        rw [Nat.sub_self] at hw
        cases hww : wayF l key 0 (costN l.length key i) with
        | true => rw [hww, if_pos rfl] at hw; rw [Bool.true_and]; exact hw
        | false => rw [hww, if_neg (by decide)] at hw; rw [Bool.false_and]; exact hw
theorem im_good_l0 : ∀ (d i : Nat), i + d = l.length → Ev (fun k => impl_isTable.l0 k l (l.length : Int) (i : Int) l) (okFrom l d i) := by
  intro d
  induction d with
  | zero =>
    intro i hd
    exact Ev.end_ fun k => by rw [impl_isTable.l0, if_neg (by omega)]; rfl
  | succ d ih =>
    intro i hd
    have hi : i < l.length := by omega
    have hv := hr i hi
    rw [okFrom, okCell]
    by_cases hf : l.getD i 0 < 0
    · rw [decide_eq_true hf, Bool.true_or, Bool.true_and]
      refine Ev.one (ih (i + 1) (by omega)) fun k => ?_
      rw [impl_isTable.l0, if_pos (by omega), if_pos (by omega), if_pos (by omega), rd_nat, if_pos hf, wrap_next (n := l.length) hi (by omega)]
    · rw [decide_eq_false hf, Bool.false_or]
      obtain ⟨key, hkey⟩ : ∃ key : Nat, l.getD i 0 = key := ⟨(l.getD i 0).toNat, by omega⟩
      have htc := tcost_eq (l := l) (key := key) (at_ := i) (by omega) (by omega) hi hkey
      rw [hkey, Int.toNat_natCast]
      refine Ev.step (f := fun k => (slices_Contains_int_int.f k (l.take i) (key : Int)).bind fun t195 => (if t195 = true then (some false) else (impl_isTable.l1 k (key : Int) l (l.length : Int) (i : Int) ((costN l.length key i : Nat) : Int) 0 l))) (fun k => by
        rw [impl_isTable.l0, if_pos (by omega), if_pos (by omega), if_pos (by omega), rd_nat, if_neg hf, if_pos (by omega), Int.toNat_natCast, hkey, htc]; rfl) ?_
      refine Ev.bind (containsI_ev _ _ (by simp; omega)) ?_
      cases hh : decide ((key : Int) ∈ l.take i) with
      | true => simp only [if_true, Bool.not_true, Bool.false_and]; exact Ev.now _
      | false =>
        simp only [Bool.false_eq_true, if_false, Bool.not_false, Bool.true_and]
        have h0 := ih (i + 1) (by omega)
        have hw := im_way l hn hn2 hr key i (costN l.length key i) (by omega) hi (costN_lt (by omega)) _ (by rw [wrap_next (n := l.length) hi (by omega)]; exact h0) (costN l.length key i) 0 (by omega)
        cases hww : wayF l key 0 (costN l.length key i) with
        | true => rw [hww, if_pos rfl] at hw; rw [Bool.true_and]; exact hw
        | false => rw [hww, if_neg (by decide)] at hw; rw [Bool.false_and]; exact hw
end
end Go.Proofs.Yteeimoankbgcaaa.G
namespace Go.Proofs.Yteeimoankbgcaaa.G
open Go.RowKit Go.Proofs.YteeimoankbgcaaaW.PrintWords Go.Proofs.YteeimoankbgcaaaW.PrintLast Go.Proofs.YteeimoankbgcaaaW.PrintMore
set_option linter.unusedVariables false
set_option linter.unusedSimpArgs false
theorem allT_get {l : List Int} {lo hi : Int} (h : (l.all fun x => decide (lo ≤ x ∧ x ≤ hi)) = true) {j : Nat} (hj : j < l.length) : lo ≤ l.getD j 0 ∧ l.getD j 0 ≤ hi := by
  rw [List.all_eq_true] at h
  have := h l[j] (List.getElem_mem hj)
  rw [List.getD_eq_getElem?_getD, List.getElem?_eq_getElem hj]
  simpa using this
theorem areBetween_eq (l : List Int) (lo hi : Int) : impl_areBetween.f l lo hi = some (l.all fun x => decide (lo ≤ x ∧ x ≤ hi)) := by
  unfold impl_areBetween.f
  congr 2
  funext x
  rw [Bool.eq_iff_iff]; simp
theorem prGood_ev (l : List Int) (hn : l.length ≤ 4611686018427387904) : Ev (fun k => spec_prGood.f k l) (tblB l) := by
  unfold spec_prGood.f tblB
  simp only [l1In_eq, Option.bind_some]
  have stop : Ev (fun k => spec_prGood.j0 k (l.length : Int) true l) false := Ev.end_ fun k => by rw [spec_prGood.j0, if_pos rfl]
  by_cases h1 : 2 ≤ (l.length : Int) ∧ (l.length : Int) ≤ 12
  · rw [decide_eq_true h1]
    simp only [if_true, Bool.true_and]
    refine Ev.bind (l1All_ev l (-1) 999 hn) ?_
    cases h2 : (l.all fun x => decide (-1 ≤ x ∧ x ≤ 999)) with
    | false => simp only [Bool.false_eq_true, if_false, Bool.false_and]; exact stop
    | true =>
      simp only [if_true, Bool.true_and]
      refine Ev.bind (l1Has_ev l (-1) hn) ?_
      cases h3 : decide ((-1 : Int) ∈ l) with
      | false => simp only [Bool.not_false, Bool.false_and]; exact stop
      | true =>
        simp only [Bool.not_true, Bool.true_and]
        exact Ev.one (sp_good_l0 l (by omega) (by omega) (fun j hj => allT_get h2 hj) l.length 0 (by omega)) fun k => by rw [spec_prGood.j0, if_neg (by decide)]; rfl
  · rw [decide_eq_false h1]
    simp only [Bool.false_eq_true, if_false, Bool.false_and]
    exact stop
theorem isTable_ev (l : List Int) (hn : l.length ≤ 4611686018427387904) : Ev (fun k => impl_isTable.f k l) (tblB l) := by
  unfold impl_isTable.f tblB
  simp only [isSize_eq, areBetween_eq, Option.bind_some]
  have stop : Ev (fun k => impl_isTable.j0 k true l) false := Ev.end_ fun k => by rw [impl_isTable.j0, if_pos rfl]
  by_cases h1 : 2 ≤ (l.length : Int) ∧ (l.length : Int) ≤ 12
  · rw [decide_eq_true h1]
    simp only [if_true, Bool.true_and]
    cases h2 : (l.all fun x => decide (-1 ≤ x ∧ x ≤ 999)) with
    | false => simp only [Bool.false_eq_true, if_false, Bool.false_and]; exact stop
    | true =>
      simp only [if_true, Bool.true_and]
      refine Ev.bind (containsI_ev l (-1) hn) ?_
      cases h3 : decide ((-1 : Int) ∈ l) with
      | false => simp only [Bool.not_false, Bool.false_and]; exact stop
      | true =>
        simp only [Bool.not_true, Bool.true_and]
        exact Ev.one (im_good_l0 l (by omega) (by omega) (fun j hj => allT_get h2 hj) l.length 0 (by omega)) fun k => by rw [impl_isTable.j0, if_neg (by decide)]; rfl
  · rw [decide_eq_false h1]
    simp only [Bool.false_eq_true, if_false, Bool.false_and]
    exact stop
theorem tblB_parts {l : List Int} (h : tblB l = true) : 2 ≤ l.length ∧ l.length ≤ 12 ∧ (∀ j, j < l.length → -1 ≤ l.getD j 0 ∧ l.getD j 0 ≤ 999) ∧ (-1 : Int) ∈ l := by
  unfold tblB at h
  simp only [Bool.and_eq_true, decide_eq_true_eq] at h
  exact ⟨by omega, by omega, fun j hj => allT_get h.1.1.2 hj, h.1.2⟩
theorem getD_mem {l : List Int} {i : Nat} (h : i < l.length) : l.getD i 0 ∈ l := by
  rw [List.getD_eq_getElem?_getD, List.getElem?_eq_getElem h]; exact List.getElem_mem h
theorem getD_get {l : List Int} {i : Nat} (h : i < l.length) : l.getD i 0 = l[i] := by
  rw [List.getD_eq_getElem?_getD, List.getElem?_eq_getElem h]; rfl
def putZ (n : Int) : List Int → List Int
  | [] => [n]
  | y :: r => if y < n then y :: putZ n r else if y = n then y :: r else n :: y :: r
theorem putZ_split (n : Int) : ∀ (i : Nat) (L : List Int), i ≤ L.length → (∀ j, j < i → L.getD j 0 < n) → putZ n L = L.take i ++ putZ n (L.drop i)
  | 0, L, _, _ => by simp
  | i + 1, [], h, _ => by simp at h
  | i + 1, y :: r, h, hl => by
    have h0 : y < n := hl 0 (by omega)
    rw [putZ, if_pos h0, List.take_succ_cons, List.drop_succ_cons, List.cons_append, ← putZ_split n i r (by simpa using h) (fun j hj => by have := hl (j + 1) (by omega); simpa using this)]
theorem putZ_mem (n x : Int) : ∀ L : List Int, x ∈ putZ n L ↔ x = n ∨ x ∈ L
  | [] => by simp [putZ]
  | y :: r => by
    rw [putZ]
    split
    · rw [List.mem_cons, putZ_mem n x r, List.mem_cons]
      constructor
      · rintro (h | h | h)
        · exact Or.inr (Or.inl h)
        · exact Or.inl h
        · exact Or.inr (Or.inr h)
      · rintro (h | h | h)
        · exact Or.inr (Or.inl h)
        · exact Or.inl h
        · exact Or.inr (Or.inr h)
    · split
      · rename_i h; subst h; simp
      · simp
theorem putZ_strict (n : Int) : ∀ L : List Int, L.Pairwise (· < ·) → (putZ n L).Pairwise (· < ·)
  | [], _ => by simp [putZ]
  | y :: r, h => by
    rw [List.pairwise_cons] at h
    rw [putZ]
    split
    · rename_i hy
      rw [List.pairwise_cons]
      refine ⟨fun x hx => ?_, putZ_strict n r h.2⟩
      rcases (putZ_mem n x r).mp hx with e | e
      · omega
      · exact h.1 x e
    · split
      · exact List.pairwise_cons.mpr h
      · rw [List.pairwise_cons]
        refine ⟨fun x hx => ?_, List.pairwise_cons.mpr h⟩
        rcases List.mem_cons.mp hx with e | e
        · omega
        · have := h.1 x e; omega
theorem putZ_len (n : Int) : ∀ L : List Int, (putZ n L).length ≤ L.length + 1
  | [] => by simp [putZ]
  | y :: r => by
    have := putZ_len n r
    rw [putZ]
    split
    · simp; omega
    · split <;> simp
theorem l1Put_l0 (L : List Int) (n : Int) (hl : L.length ≤ 1000000) : ∀ (d i : Nat), i + d = L.length → (∀ j, j < i → L.getD j 0 < n) → Ev (fun k => spec_l1Put.l0 k L n (i : Int)) (putZ n L) := by
  intro d
  induction d with
  | zero =>
    intro i hd hlt
    refine Ev.end_ fun k => ?_
    rw [spec_l1Put.l0, if_neg (by omega)]
    simp only [Option.bind_some, List.nil_append, List.length_nil, Int.toNat_natCast]
    rw [if_pos (by omega), if_pos (by omega), if_pos (by simp; omega), if_pos (by simp; omega), if_pos (by simp; omega), putZ_split n i L (by omega) hlt, List.drop_of_length_le (by omega), List.append_nil]
    rfl
  | succ d ih =>
    intro i hd hlt
    have hi : i < L.length := by omega
    by_cases h1 : L.getD i 0 < n
    · refine Ev.one (ih (i + 1) (by omega) (fun j hj => ?_)) fun k => ?_
      · by_cases e : j = i
        · rw [e]; exact h1
        · exact hlt j (by omega)
      · rw [spec_l1Put.l0, if_pos (by omega), if_pos (by omega), rd_nat, if_pos h1, wrap_next (n := L.length) hi (by omega)]
    · by_cases h2 : L.getD i 0 = n
      · refine Ev.end_ fun k => ?_
        rw [spec_l1Put.l0, if_pos (by omega), if_pos (by omega), rd_nat, if_neg h1, if_pos h2, putZ_split n i L (by omega) hlt, drop_getD hi, putZ, if_neg h1, if_pos h2, ← drop_getD hi, List.take_append_drop]
      · refine Ev.end_ fun k => ?_
        rw [spec_l1Put.l0, if_pos (by omega), if_pos (by omega), rd_nat, if_neg h1, if_neg h2]
        simp only [Option.bind_some, List.nil_append, List.length_nil, Int.toNat_natCast]
        rw [if_pos (by omega), if_pos (by simp; omega), if_pos (by simp; omega), if_pos (by simp; omega), putZ_split n i L (by omega) hlt, drop_getD hi, putZ, if_neg h1, if_neg h2, List.append_assoc]
        rfl
theorem l1Put_ev (L : List Int) (n : Int) (hl : L.length ≤ 1000000) : Ev (fun k => spec_l1Put.f k L n) (putZ n L) := by
  unfold spec_l1Put.f
  exact l1Put_l0 L n hl L.length 0 (by omega) (fun j hj => by omega)
def prsTo (l : List Int) : Nat → List Int
  | 0 => []
  | q + 1 => if l.getD q 0 = -1 then prsTo l q else putZ (l.getD q 0) (prsTo l q)
theorem prsTo_len (l : List Int) : ∀ q, (prsTo l q).length ≤ q
  | 0 => by simp [prsTo]
  | q + 1 => by
    have := prsTo_len l q
    have := putZ_len (l.getD q 0) (prsTo l q)
    rw [prsTo]
    split <;> omega
theorem prsTo_mem (l : List Int) (x : Int) : ∀ q, x ∈ prsTo l q ↔ ∃ j, j < q ∧ l.getD j 0 = x ∧ x ≠ -1
  | 0 => by simp [prsTo]
  | q + 1 => by
    rw [prsTo]
    split
    · rename_i h
      rw [prsTo_mem l x q]
      constructor
      · rintro ⟨j, h1, h2, h3⟩; exact ⟨j, by omega, h2, h3⟩
      · rintro ⟨j, h1, h2, h3⟩
        by_cases e : j = q
        · subst e; omega
        · exact ⟨j, by omega, h2, h3⟩
    · rename_i h
      rw [putZ_mem, prsTo_mem l x q]
      constructor
      · rintro (e | ⟨j, h1, h2, h3⟩)
        · exact ⟨q, by omega, e.symm, by omega⟩
        · exact ⟨j, by omega, h2, h3⟩
      · rintro ⟨j, h1, h2, h3⟩
        by_cases e : j = q
        · subst e; exact Or.inl h2.symm
        · exact Or.inr ⟨j, by omega, h2, h3⟩
theorem prsTo_strict (l : List Int) : ∀ q, (prsTo l q).Pairwise (· < ·)
  | 0 => by simp [prsTo]
  | q + 1 => by
    rw [prsTo]
    split
    · exact prsTo_strict l q
    · exact putZ_strict _ _ (prsTo_strict l q)
theorem prSorted_ev (l : List Int) (hn : l.length ≤ 1000000) : Ev (fun k => spec_prSorted.f k l) (prsTo l l.length) := by
  unfold spec_prSorted.f
  have := Ev.up0 l.length (fun q => prsTo l q) (fun k s q => spec_prSorted.l0 k s l (l.length : Int) q) (prsTo l l.length) (fun q hq h => ?_) (Ev.end_ fun k => ?_)
  · simpa [prsTo] using this
  · rw [prsTo] at h
    by_cases hf : l.getD q 0 = -1
    · rw [if_pos hf] at h
      refine Ev.one h fun k => ?_
      rw [spec_prSorted.l0, if_pos (by omega), if_pos (by omega), if_pos (by omega), rd_nat, if_pos hf, wrap_next (n := l.length) hq (by omega)]
    · rw [if_neg hf] at h
      refine Ev.step (f := fun k => (spec_l1Put.f k (prsTo l q) (l.getD q 0)).bind fun t313 => (spec_prSorted.l0 k t313 l (l.length : Int) ((q + 1 : Nat) : Int))) (fun k => by
        rw [spec_prSorted.l0, if_pos (by omega), if_pos (by omega), if_pos (by omega), rd_nat, if_neg hf, wrap_next (n := l.length) hq (by omega)]) ?_
      exact Ev.bind (l1Put_ev _ _ (by have := prsTo_len l q; omega)) h
  · rw [spec_prSorted.l0, if_neg (by omega)]
theorem strict_ext : ∀ (a b : List Int), a.Pairwise (· < ·) → b.Pairwise (· < ·) → (∀ x, x ∈ a ↔ x ∈ b) → a = b
  | [], [], _, _, _ => rfl
  | [], y :: b, _, _, h => by have := (h y).mpr (List.mem_cons_self); cases this
  | x :: a, [], _, _, h => by have := (h x).mp (List.mem_cons_self); cases this
  | x :: a, y :: b, ha, hb, h => by
    rw [List.pairwise_cons] at ha hb
    have e : x = y := by
      rcases List.mem_cons.mp ((h x).mp (List.mem_cons_self)) with e | e
      · exact e
      · rcases List.mem_cons.mp ((h y).mpr (List.mem_cons_self)) with e2 | e2
        · exact e2.symm
        · have := hb.1 x e; have := ha.1 y e2; omega
    subst e
    congr 1
    refine strict_ext a b ha.2 hb.2 (fun z => ?_)
    constructor
    · intro hz
      rcases List.mem_cons.mp ((h z).mp (List.mem_cons_of_mem _ hz)) with e | e
      · have := ha.1 z hz; omega
      · exact e
    · intro hz
      rcases List.mem_cons.mp ((h z).mpr (List.mem_cons_of_mem _ hz)) with e | e
      · have := hb.1 z hz; omega
      · exact e
theorem sortZ_perm (l : List Int) : (sortZ l).Perm l := List.mergeSort_perm l _
theorem sortZ_le (l : List Int) : (sortZ l).Pairwise (· ≤ ·) := by
  have h := List.pairwise_mergeSort (le := fun x y : Int => decide (x ≤ y)) (fun a b c => by simp; omega) (fun a b => by simp; omega) l
  exact h.imp (fun h => by simpa using h)
theorem strict_of {l : List Int} (h : l.Pairwise (· ≤ ·)) (hn : l.Nodup) : l.Pairwise (· < ·) := by
  refine (h.and hn).imp ?_
  rintro a b ⟨h1, h2⟩
  omega
theorem filter_nodup {l : List Int} (h : ∀ i j, i < j → j < l.length → 0 ≤ l.getD i 0 → l.getD i 0 ≠ l.getD j 0) : (l.filter fun x => decide (0 ≤ x)).Nodup := by
  have h1 : l.Pairwise (fun a b => 0 ≤ a → a ≠ b) := by
    rw [List.pairwise_iff_getElem]
    intro i j hi hj hij h0
    have := h i j hij hj
    rw [getD_get hi, getD_get hj] at this
    exact this h0
  have h2 := h1.filter (fun x => decide (0 ≤ x))
  refine List.Pairwise.imp_of_mem ?_ h2
  intro a b ha hb hab
  rw [List.mem_filter] at ha
  exact hab (by simpa using ha.2)
theorem tbl_dist {l : List Int} (h : tblB l = true) : ∀ i j, i < j → j < l.length → 0 ≤ l.getD i 0 → l.getD i 0 ≠ l.getD j 0 := by
  have hok : okFrom l l.length 0 = true := by
    unfold tblB at h
    simp only [Bool.and_eq_true] at h
    exact h.2
  have hall : ∀ (d i : Nat), i + d = l.length → okFrom l d i = true → ∀ j, i ≤ j → j < l.length → okCell l j = true := by
    intro d
    induction d with
    | zero => intro i hd _ j h1 h2; omega
    | succ d ih =>
      intro i hd hk j h1 h2
      rw [okFrom, Bool.and_eq_true] at hk
      by_cases e : j = i
      · rw [e]; exact hk.1
      · exact ih (i + 1) (by omega) hk.2 j (by omega) h2
  intro i j hij hj h0 e
  have hc := hall l.length 0 (by omega) hok j (Nat.zero_le _) hj
  unfold okCell at hc
  rw [Bool.or_eq_true, Bool.and_eq_true] at hc
  rcases hc with hc | hc
  · rw [decide_eq_true_eq] at hc; omega
  · have h1 := hc.1
    rw [Bool.not_eq_true', decide_eq_false_iff_not] at h1
    apply h1
    rw [← e, getD_get (by omega : i < l.length)]
    exact List.mem_take_iff_getElem.mpr ⟨i, by omega, rfl⟩
theorem keysZ_eq (l : List Int) : keysZ l = (sortZ l).filter fun x => decide (0 ≤ x) := by
  unfold keysZ
  congr 1
  funext x
  unfold negKey
  rw [Bool.eq_iff_iff]
  simp
theorem keysZ_perm (l : List Int) : (keysZ l).Perm (l.filter fun x => decide (0 ≤ x)) := by
  rw [keysZ_eq]
  exact (sortZ_perm l).filter _
theorem keysZ_len (l : List Int) : (keysZ l).length ≤ l.length := by
  rw [(keysZ_perm l).length_eq]
  exact List.length_filter_le _ _
theorem keysZ_strict {l : List Int} (h : tblB l = true) : (keysZ l).Pairwise (· < ·) := by
  have hn := (keysZ_perm l).nodup_iff.mpr (filter_nodup (tbl_dist h))
  refine strict_of ?_ hn
  rw [keysZ_eq]
  exact (sortZ_le l).filter _
theorem keysZ_mem {l : List Int} {x : Int} : x ∈ keysZ l ↔ x ∈ l ∧ 0 ≤ x := by
  rw [(keysZ_perm l).mem_iff, List.mem_filter]
  simp
theorem keysZ_sorted {l : List Int} (h : tblB l = true) : keysZ l = prsTo l l.length := by
  obtain ⟨h1, h2, h3, h4⟩ := tblB_parts h
  refine strict_ext _ _ (keysZ_strict h) (prsTo_strict _ _) (fun x => ?_)
  rw [keysZ_mem, prsTo_mem]
  constructor
  · rintro ⟨hx, h0⟩
    obtain ⟨j, hj, e⟩ := List.getElem_of_mem hx
    exact ⟨j, hj, by rw [getD_get hj]; exact e, by omega⟩
  · rintro ⟨j, hj, e, hx⟩
    have := h3 j hj
    exact ⟨by rw [← e]; exact getD_mem hj, by omega⟩
theorem keys_f {l : List Int} (h : tblB l = true) : impl_Table_keys.f l = some (keysZ l) := by
  obtain ⟨h1, h2, h3, h4⟩ := tblB_parts h
  unfold impl_Table_keys.f
  rw [if_pos ⟨by omega, by omega⟩]
end Go.Proofs.Yteeimoankbgcaaa.G
namespace Go.Proofs.Yteeimoankbgcaaa.Pure
open Go.RowKit Go.Proofs.Yteeimoankbgcaaa.G Go.Proofs.YteeimoankbgcaaaW.PrintWords Go.Proofs.YteeimoankbgcaaaW.PrintLast
set_option linter.unusedVariables false
set_option linter.unusedSimpArgs false
def kyV (l : List Int) : List Int × Bool := if tblB l = true then (keysZ l, true) else ([], false)
theorem kyV_len (l : List Int) : (kyV l).1.length ≤ l.length := by
  unfold kyV
  split
  · exact keysZ_len l
  · simp
theorem spec_Keys_ev (l : List Int) (hn : l.length ≤ 4611686018427387904) : Ev (fun k => spec_KeysOf.f k l) (kyV l) := by
  unfold spec_KeysOf.f kyV
  refine Ev.bind (prGood_ev l hn) ?_
  cases h : tblB l with
  | false => simp only [Bool.false_eq_true, if_false]; exact Ev.now _
  | true =>
    obtain ⟨h1, h2, h3, h4⟩ := tblB_parts h
    simp only [if_true]
    rw [keysZ_sorted h]
    refine Ev.bind (prSorted_ev l (by omega)) ?_
    exact Ev.now _
theorem impl_Keys_ev (l : List Int) (hn : l.length ≤ 4611686018427387904) : Ev (fun k => impl_KeysOf.f k l) (kyV l) := by
  unfold impl_KeysOf.f kyV
  refine Ev.bind (isTable_ev l hn) ?_
  cases h : tblB l with
  | false => simp only [Bool.false_eq_true, if_false]; exact Ev.now _
  | true =>
    simp only [if_true, keys_f h, Option.bind_some]
    exact Ev.now _
theorem FnExactKeysOf (l0 : List Int) (hm : l0.length ≤ maxLen) (hb : l0.length * 8 ≤ 140737488351232) (hw : ∀ x ∈ l0, (Lit.int .i64 x).wf = true) : ∃ k, laws_FnExactKeysOf.f k l0 = some true := by
  refine Ev.rounds ?_
  unfold laws_FnExactKeysOf.f
  rw [szTable_eq l0 (by omega)]
  simp only [Option.bind_some]
  by_cases h : (l0.length : Int) > 1048576
  · rw [if_pos h]
    simp only [show ((-1 : Int) < 0) by decide, if_true]
    exact Ev.now _
  · rw [if_neg h]
    have hn : l0.length ≤ 1048576 := by omega
    have hv := kyV_len l0
    simp only [show ¬ ((1048576 : Int) - (l0.length : Int) < 0) by omega, if_false]
    refine Ev.bind (toTable_ev l0 (by omega)) ?_
    refine Ev.bind (spec_Keys_ev l0 (by omega)) ?_
    refine Ev.bind (toTable_ev l0 (by omega)) ?_
    refine Ev.bind (impl_Keys_ev l0 (by omega)) ?_
    refine Ev.bind (eqIntS_ev _ _ (by omega)) ?_
    simp only [decide_true, if_true, bne_self_eq_false]
    refine Ev.step (fun k => by rw [laws_FnExactKeysOf.j0, if_neg (by decide)]) ?_
    refine Ev.bind (toTable_ev l0 (by omega)) ?_
    refine Ev.bind (eqTable_ev l0 l0 (by omega)) ?_
    simp only [decide_true, if_true]
    refine Ev.bind (markTable_ev _ 1 (by omega) (by omega)) ?_
    simp only [nneg, if_false]
    refine Ev.bind (eqIntS_ev _ _ (by omega)) ?_
    simp only [decide_true, if_true, bne_self_eq_false]
    refine Ev.step (fun k => by rw [laws_FnExactKeysOf.j1, if_neg (by decide)]) ?_
    refine Ev.bind (markIntS_ev _ 1 (by omega) (by omega)) ?_
    refine Ev.bind (heldIntS_ev _ 1 (by omega) (by omega)) ?_
    simp only [nneg, if_false, if_true]
    refine Ev.bind (toTable_ev l0 (by omega)) ?_
    refine Ev.bind (impl_Keys_ev l0 (by omega)) ?_
    refine Ev.bind (eqIntS_ev _ _ (by omega)) ?_
    simp only [decide_true, if_true, bne_self_eq_false]
    refine Ev.step (fun k => by rw [laws_FnExactKeysOf.j2, if_neg (by decide)]) ?_
    refine Ev.bind (heldIntS_ev _ 1 (by omega) (by omega)) ?_
    simp only [nneg, if_false, if_true]
    exact Ev.now _
end Go.Proofs.Yteeimoankbgcaaa.Pure
namespace Go.Proofs.YteeimoankbgcaaaW.PrintWords
open Go.ChangeShapes Go.WideShapes
theorem sized_ints {H : Type} {enc : TypeId × Value → H} {P : Program} {W : World} {base : Nat} {spare : Nat → Bool} {held : Bool} {t e : TypeId} {k : IntKind} {a : Option Addr} {len cap : Nat} {d : DataW H} {ps : List MemPlace} {ts : List TypeId} {ds : List (DataW H)} {j : Nat}
    (hsz : (DataW.weightsEach P ts ds).all (· ≤ reachBytes) = true) (ht : ts[j]? = some t) (hd : ds[j]? = some d) (hu : P.underlying t = some (.slice e)) (he : P.underlying e = some (.int k)) (hc : P.cellsOf e = 1) {B : Nat} (hB : P.bytesOf e = B)
    (h : DataW.Trod enc P W base spare held t (.slice a len cap) d ps) : len * B ≤ 140737488351232 := by
  obtain ⟨fuel, hf⟩ := h
  rcases open_ints hu he hc hf with ⟨hcs, _⟩ | ⟨x, l, c, zs, hcs, _, hl, _, hz, hx, _, _⟩
  · simp [Value.cells] at hcs
    obtain ⟨rfl, rfl, rfl⟩ := hcs
    simp
  · simp [Value.cells] at hcs
    obtain ⟨rfl, rfl, rfl⟩ := hcs
    obtain ⟨hx, _⟩ := Prod.mk.inj hx
    subst hx
    have z := sized_slice hsz ht hd hu
    rw [hB] at z
    have hl2 : len ≤ zs.length := by
      rw [hz]
      split
      · exact hl
      · exact Nat.le_refl _
    have h1 : (lits (H := H) k (zs.take len)).length + (lits (H := H) k (zs.drop len)).length = zs.length := by
      simp [lits]
      omega
    rw [h1] at z
    exact Nat.le_trans (Nat.mul_le_mul_right _ hl2) z
end Go.Proofs.YteeimoankbgcaaaW.PrintWords
namespace Go.Proofs.Yteeimoankbgcaaa.fnExactKeysOf
open Go.ChangeShapes Go.WideShapes Go.ChangeAt Go.RowKit
open Go.ChangeMaps (open_string shut_string)
open Go.Proofs.YteeimoankbgcaaaW.PrintWords Go.Proofs.YteeimoankbgcaaaW.PrintLast Go.Proofs.YteeimoankbgcaaaW.PrintMore
set_option linter.unusedVariables false
set_option linter.unusedSimpArgs false
theorem own : ownKnob Try.prog.godebug = none := by kernel_rfl
theorem laidOut : laidOutB Try.prog = true := by kernel_rfl
def IsRow (k : IntKind) (w : World) (a : Option Addr) (len cap : Nat) (zs : List Int) : Prop :=
  (a = none ∧ len = 0 ∧ cap = 0 ∧ zs = []) ∨
  ∃ x, a = some x ∧ len ≤ cap ∧ cap ≤ maxLen ∧ zs.length = cap ∧ (∀ i, i < zs.length → w.cell? (x.add i) = some (.int k (zs.getD i 0))) ∧ ∀ n ∈ zs, (Lit.int k n).wf = true
set_option maxRecDepth 100000 in
theorem lifted (os : Os) (started : os.Started) (H : Type) (enc : TypeId × Value → H) :
    ReturnsInHanded {} Try.checked os 5 .any (Rows.fnExactKeysOfSpec.pre6 enc Try.prog Try.f5 Rows.fnExactKeysOfRow.domain false) (Rows.fnExactKeysOfSpec.post enc Try.prog Try.f5 false true false false) := by
  refine returnsInHanded_of_change_sized (C := Try.checked) own started (by kernel_rfl) Try.func5
    (ChangeSpec.witness6 (enc := enc) (C := Try.checked) false ⟨#[], #[.agg #[.slice none 0 0]], []⟩ 8 (by kernel_rfl) (by kernel_rfl) (by kernel_rfl) (by kernel_rfl)) ?_
  intro W base args ds gs before hval0 hW hcnd hsz0 _
  have hsz : (DataW.weightsEach Try.prog (Try.f5.params.toList ++ Rows.fnExactKeysOfSpec.plain.varTypes Try.prog) (ds ++ gs)).all (· ≤ reachBytes) = true := hsz0
  have hval : ∀ (j : Nat) t v, Try.f5.params[j]? = some t → args[j]? = some v → Value.okWide Try.prog W .any base t v := hval0
  have hW' := hW
  obtain ⟨p, q, hA0, hV, rfl, hfz, hnd⟩ := hW
  have hA : DataW.TrodAll enc Try.prog W 0 (fun _ => true) true Try.f5.params.toList args.toList ds p := hA0
  rw [Try.params5] at hA hval hsz
  obtain ⟨v0, vs0, d0, ds0, p0, q0, hargs, rfl, rfl, h0, r0⟩ := trodAll_cons hA
  obtain ⟨rfl, rfl, rfl⟩ := trodAll_nil r0
  obtain rfl : args = #[v0] := by cases args; simp_all
  obtain ⟨rfl, rfl⟩ := trodVars_none hV
  obtain ⟨cs0, rfl, hcs0⟩ := okWide_struct Try.underlying24 (hval 0 24 v0 rfl rfl)
  have k0 := h0
  have lt0 : ∀ x ∈ p0, x.block < W.heap.size := by obtain ⟨m, hm⟩ := k0; exact DataW.trod_lt m _ _ _ hm
  obtain ⟨a0, len0, cap0, z0, rfl, w0, y0⟩ : ∃ a len cap zs, cs0 = #[.slice a len cap] ∧ IsRow .i64 W a len cap zs ∧ len * 8 ≤ 140737488351232 := by
    obtain ⟨fuel, hf⟩ := h0
    obtain ⟨y, m, hx, _, hf0⟩ := trod_struct1 Try.underlying24 hf
    have hsize : cs0.size = 1 := hcs0.trans (by kernel_rfl)
    obtain ⟨u, rfl⟩ : ∃ u, cs0 = #[u] := Array.size_eq_one_iff.1 hsize
    have hone : Try.prog.cellsOf 22 = 1 := by kernel_rfl
    have hf1 : DataW.trod enc Try.prog W 0 (fun _ => true) true m 22 [u] = some y := by simpa [Value.cells, hone] using hf0
    obtain ⟨rfl, rfl⟩ := Prod.mk.inj hx
    have hsz1 : (DataW.weightsEach Try.prog [22] [y.1]).all (· ≤ reachBytes) = true := by
      rw [List.all_eq_true]
      intro b hb
      refine List.all_eq_true.1 hsz b (DataW.weights_mem_each (j := 0) rfl rfl b ?_)
      rw [DataW.weights, Try.underlying24]
      exact hb
    rcases open_ints Try.underlying22 Try.underlying3 (by kernel_rfl) hf1 with ⟨hcs, _⟩ | ⟨x, l, c, zs, hcs, _, hl, hm, hz, _, hcell, hwz⟩
    · obtain rfl : u = .slice none 0 0 := by simpa using hcs
      exact ⟨none, 0, 0, [], rfl, .inl ⟨rfl, rfl, rfl, rfl⟩, by omega⟩
    · obtain rfl : u = .slice (some x) l c := by simpa using hcs
      have hy := Go.Proofs.YteeimoankbgcaaaW.PrintWords.sized_ints hsz1 (j := 0) (t := 22) rfl rfl Try.underlying22 Try.underlying3 (by kernel_rfl) (B := 8) (by kernel_rfl) (⟨m, hf1⟩ : DataW.Trod enc Try.prog W 0 (fun _ => true) true 22 (.slice (some x) l c) y.1 y.2)
      exact ⟨some x, l, c, zs, rfl, .inr ⟨_, rfl, hl, hm, by simpa using hz, hcell, hwz⟩, hy⟩
  clear hA0 hval0 hsz0 hsz
  obtain ⟨l0, rfl, hr0, hm0, hw0, hc0⟩ := ReadsInt.ofRowC w0
  obtain ⟨k, h⟩ := Pure.FnExactKeysOf l0 hm0 y0 hw0
  refine (G.laws_FnExactKeysOf.calls k _ _ l0 true W (Kd.C_of_reads (d := (0 : Int)) (h1 := fun _ => rfl) hr0) hc0 h).mono fun e W' hee => ?_
  obtain ⟨he, bel⟩ := hee
  subst he
  exact ⟨_, rfl, _, _, _, [], _, [], hW', trodAll_mk1 (shut_bool Try.underlying4 _), (trodAll_cons_mk (Below.trod laidOut (by kernel_rfl) (of_decide_eq_true (by kernel_rfl)) k0 bel lt0) trodAll_mk0), rfl, bel.frame _, fun h => by cases h⟩
theorem over : Rows.fnExactKeysOfRow.holds Try.pinned (OpenSpec.ofChange Rows.fnExactKeysOfSpec) :=
  OpenClaim.holds_of_wide 5 Try.f5 rfl rfl rfl rfl rfl rfl rfl ⟨rfl, rfl, rfl, rfl, rfl⟩ rfl rfl rfl rfl rfl (by kernel_rfl) Try.func5 (by kernel_rfl)
    (of_decide_eq_true (by kernel_rfl)) (by unfold Func.isWrapper; first | (rw [if_pos (by decide +kernel)]; kernel_rfl) | (rw [if_neg (by decide +kernel)]; exact ⟨rfl, rfl⟩))
    (fun os started H enc _ => lifted os started H enc)
theorem proved : Rows.FnExactKeysOfSaid := over
#print axioms proved
end Go.Proofs.Yteeimoankbgcaaa.fnExactKeysOf
namespace Go.Proofs.Yteeimoankbgcaaa
/-- The row, under a short name, for the claim. -/
theorem fnExactKeysOf_holds : Rows.FnExactKeysOfSaid := fnExactKeysOf.proved
end Go.Proofs.Yteeimoankbgcaaa
