/- The law FnInsertionOrders: part 2 of the printed functions and the facts on them that its row leans on (merged by this session's slim.py). -/
import Derived.Test.YteakjjimkagmkaaGreatDoorZFnInsertionOrders1
set_option linter.unusedVariables false
set_option linter.unusedSimpArgs false
namespace Go.Proofs
open Go.Shelf
open Go.RowKit Go.Lib Go.Sort in
theorem Tryz.slices_DeleteFunc {α : Type} [Inhabited α] (enc : α → Value) (hO : OneCell enc) (p : α → Bool) (g : Nat) (lb : Array Value) (eg : ∀ args w, (callFunc g args).run Tryz.prog w = .ok (.enter g args) w) (zr : α) (v23 : ∀ w, (zeroValue 3).run Tryz.prog w = .ok (enc zr) w) (blk off cap : Nat) (d : Array α) (w : World) (hp : PredAt Tryz.prog g lb enc p w) (hpo : PredOver Tryz.prog g lb enc p blk off d.size w) (hH : Holds enc w blk off d) (hsz : d.size ≤ 9223372036854775807) (hcap : d.size ≤ cap) :
    Calls Tryz.prog 71 #[.slice (some ⟨blk, off, none⟩) d.size cap, .func (.func g) #[] lb] w fun e w' => e = .returned (.slice (some ⟨blk, off, none⟩) (d.toList.filter fun x => !p x).length cap) ∧ ∃ q, w' = putRow enc (Sort.ahead w q) blk off ((d.toList.filter fun x => !p x) ++ List.replicate (d.size - (d.toList.filter fun x => !p x).length) zr).toArray := AnyE.slices_DeleteFunc Tryz.laysSlH10_f71 enc hO p g lb eg zr v23 blk off cap d w hp hpo hH hsz hcap
def Tryz.laysSlM5_f107_ren : Go.Shelf.Ren := ⟨fun | 5 => 107 | 8 => 125 | 7 => 124 | 19 => 149 | 20 => 150 | 10 => 140 | 11 => 141 | 12 => 142 | 13 => 143 | 14 => 144 | 15 => 145 | 16 => 146 | 17 => 147 | 18 => 148 | 30 => 159 | 31 => 160 | 32 => 161 | 33 => 162 | 34 => 163 | 35 => 164 | 40 => 167 | n => n, fun | 23 => 24 | 25 => 3 | 3 => 3 | 32 => 101 | 22 => 24 | 0 => 0 | 44 => 114 | 46 => 67 | 4 => 4 | 36 => 149 | 35 => 148 | 41 => 30 | 5 => 5 | 9 => 9 | 53 => 168 | 57 => 172 | 63 => 174 | 64 => 175 | n => n, fun | n => n⟩
theorem Tryz.laysSlM5_f107 : Go.Proofs.SlLaysM.n5 Tryz.prog Tryz.laysSlM5_f107_ren := {
  mixed := by kernel_rfl
  f5 := ⟨Tryz.f107.name, by decide, Tryz.func107.trans (congrArg some (by kernel_rfl))⟩
  f7 := ⟨Tryz.f124.name, by decide, Tryz.func124.trans (congrArg some (by kernel_rfl))⟩
  f8 := Tryz.func125.trans (congrArg some (by kernel_rfl))
  f10 := ⟨Tryz.f140.name, by decide, Tryz.func140.trans (congrArg some (by kernel_rfl))⟩
  f11 := ⟨Tryz.f141.name, by decide, Tryz.func141.trans (congrArg some (by kernel_rfl))⟩
  f12 := ⟨Tryz.f142.name, by decide, Tryz.func142.trans (congrArg some (by kernel_rfl))⟩
  f13 := ⟨Tryz.f143.name, by decide, Tryz.func143.trans (congrArg some (by kernel_rfl))⟩
  f14 := ⟨Tryz.f144.name, by decide, Tryz.func144.trans (congrArg some (by kernel_rfl))⟩
  f15 := ⟨Tryz.f145.name, by decide, Tryz.func145.trans (congrArg some (by kernel_rfl))⟩
  f16 := ⟨Tryz.f146.name, by decide, Tryz.func146.trans (congrArg some (by kernel_rfl))⟩
  f17 := ⟨Tryz.f147.name, by decide, Tryz.func147.trans (congrArg some (by kernel_rfl))⟩
  f18 := ⟨Tryz.f148.name, by decide, Tryz.func148.trans (congrArg some (by kernel_rfl))⟩
  f19 := Tryz.func149.trans (congrArg some (by kernel_rfl))
  f20 := Tryz.func150.trans (congrArg some (by kernel_rfl))
  f30 := ⟨Tryz.f159.name, by decide, Tryz.func159.trans (congrArg some (by kernel_rfl))⟩
  f31 := Tryz.func160.trans (congrArg some (by kernel_rfl))
  f32 := Tryz.func161.trans (congrArg some (by kernel_rfl))
  f33 := ⟨Tryz.f162.name, by decide, Tryz.func162.trans (congrArg some (by kernel_rfl))⟩
  f34 := ⟨Tryz.f163.name, by decide, Tryz.func163.trans (congrArg some (by kernel_rfl))⟩
  f35 := ⟨Tryz.f164.name, by decide, Tryz.func164.trans (congrArg some (by kernel_rfl))⟩
  f40 := ⟨Tryz.f167.name, by decide, Tryz.func167.trans (congrArg some (by kernel_rfl))⟩
  t0 := Tryz.underlying0
  a0 := Tryz.isAgg0
  z0 := Tryz.sizeOf0
  v0 := Tryz.zeroValue0
  t3 := Tryz.underlying3
  a3 := Tryz.isAgg3
  z3 := Tryz.sizeOf3
  v3 := Tryz.zeroValue3
  t4 := Tryz.underlying4
  a4 := Tryz.isAgg4
  z4 := Tryz.sizeOf4
  v4 := Tryz.zeroValue4
  t5 := Tryz.underlying5
  a5 := Tryz.isAgg5
  z5 := Tryz.sizeOf5
  v5 := Tryz.zeroValue5
  t9 := Tryz.underlying9
  a9 := Tryz.isAgg9
  z9 := Tryz.sizeOf9
  v9 := Tryz.zeroValue9
  t22 := Tryz.underlying24
  a22 := Tryz.isAgg24
  z22 := Tryz.sizeOf24
  v22 := Tryz.zeroValue24
  t23 := Tryz.underlying24
  a23 := Tryz.isAgg24
  z23 := Tryz.sizeOf24
  v23 := Tryz.zeroValue24
  t25 := Tryz.underlying3
  a25 := Tryz.isAgg3
  z25 := Tryz.sizeOf3
  v25 := Tryz.zeroValue3
  t32 := Tryz.underlying101
  a32 := Tryz.isAgg101
  z32 := Tryz.sizeOf101
  v32 := Tryz.zeroValue101
  t35 := Tryz.underlying148
  a35 := Tryz.isAgg148
  z35 := Tryz.sizeOf148
  v35 := Tryz.zeroValue148
  t36 := Tryz.underlying149
  a36 := Tryz.isAgg149
  z36 := Tryz.sizeOf149
  v36 := Tryz.zeroValue149
  t41 := Tryz.underlying30
  a41 := Tryz.isAgg30
  z41 := Tryz.sizeOf30
  v41 := Tryz.zeroValue30
  t44 := Tryz.underlying114
  a44 := Tryz.isAgg114
  z44 := Tryz.sizeOf114
  v44 := Tryz.zeroValue114
  t46 := Tryz.underlying67
  a46 := Tryz.isAgg67
  z46 := Tryz.sizeOf67
  v46 := Tryz.zeroValue67
  t53 := Tryz.underlying168
  a53 := Tryz.isAgg168
  z53 := Tryz.sizeOf168
  v53 := Tryz.zeroValue168
  t57 := Tryz.underlying172
  a57 := Tryz.isAgg172
  z57 := Tryz.sizeOf172
  v57 := Tryz.zeroValue172
  t63 := Tryz.underlying174
  a63 := Tryz.isAgg174
  z63 := Tryz.sizeOf174
  v63 := Tryz.zeroValue174
  t64 := Tryz.underlying175
  a64 := Tryz.isAgg175
  z64 := Tryz.sizeOf175
  v64 := Tryz.zeroValue175 }
open Go.Sort Go.RowKit in
theorem Tryz.slices_Sort_int (blk off cap : Nat) (zs : List Int) (w : World) (hH : Holds (Value.int .i64) w blk off zs.toArray) (hblk : blk < w.heap.size) (hsz : zs.length < 4611686018427387904) :
    Calls Tryz.prog 107 #[.slice (some ⟨blk, off, none⟩) zs.length cap] w fun e w' =>
      e = .returned (.tuple #[]) ∧ ∃ n os, w' = grow (putRow (Value.int .i64) (Sort.ahead w n) blk off (zs.mergeSort fun x y => decide (x ≤ y)).toArray) os := AnyM.slices_Sort_int Tryz.laysSlM5_f107 blk off cap zs w hH hblk hsz
open Go.RowKit Go.Sort in
theorem Tryz.slices_Sort_int_none (p : Option Addr) (cap : Nat) (w : World) :
    Calls Tryz.prog 107 #[.slice p 0 cap] w fun e w' => e = .returned (.tuple #[]) ∧ w' = w := AnyM.slices_Sort_int_none Tryz.laysSlM5_f107 p cap w
end Go.Proofs
namespace Go.Proofs.YteakjjimkagmkaaGreatDoor.G
open Go.RowKit Go.Sort Go.Proofs.YteakjjimkagmkaaGreatDoorW.PrintWords Go.Proofs.YteakjjimkagmkaaGreatDoorW.PrintLast Go.Proofs.YteakjjimkagmkaaGreatDoorW.PrintMore
def sortZ (l : List Int) : List Int := l.mergeSort fun x y => decide (x ≤ y)
theorem sortZ_len (l : List Int) : (sortZ l).length = l.length := List.length_mergeSort l
theorem o_R_of_own {e : Nat} {w : World} {base : Nat} {ok : Nat → Prop} {v : Value} {l : List Int} {n : Nat} (hn : n = l.length) (ho : w.ownsRow base e 1 v n (l.map (Value.int .i64))) (hok : ∀ k, v.ownBlock = some k → ok k) : Kd.R (Kd.int .i64) e w base ok v l := by
  subst hn
  exact Kd.R_of_own (enc := Value.int .i64) (h1 := fun _ => rfl) ho hok
theorem ints_of_C {A : Option Addr} {l : List Int} {w : World} (hr : Kd.C (Kd.int .i64) w A l.length l) : Q.Ints w.heap.size w A l := fun j hj => by
  obtain ⟨ad, e, hx⟩ := Kd.at_int hr (j : Int) (by omega) (by omega)
  have e2 : Go.Proofs.YteakjjimkagmkaaGreatDoorW.PrintWords.rd l (j : Int) = l.getD j 0 := by unfold Go.Proofs.YteakjjimkagmkaaGreatDoorW.PrintWords.rd; rw [Int.toNat_natCast]
  rw [Int.toNat_natCast, e2] at hx
  exact ⟨ad, e, World.block_lt_of_cell? w _ hx, hx⟩
theorem collectC (Bs cap : Nat) (A : Option Addr) (zs : List Int) (hreach : zs.length * 8 ≤ 140737488351232) (w : World) (hBs : Bs < w.heap.size)
    (hcs : w.cell? ⟨Bs, 0, none⟩ = some (.slice A zs.length cap)) (hI : Q.Ints w.heap.size w A zs) :
    Calls Tryz.prog 106 #[.func (.func 108) #[] #[.pointer (some ⟨Bs, 0, none⟩)]] w fun e W' => ∃ v, e = .returned v ∧ W'.ownsRow w.heap.size 3 1 v zs.length (zs.map (Value.int .i64)) ∧ (v = .slice none 0 0 ↔ zs = []) ∧ Below w.heap.size w W' :=
  callsIn_wide.1 (Q.collect_in Fence.wide 6 trivial trivial trivial rfl (by omega) Bs cap A zs hreach w hBs hcs hI)
theorem valuesC (a : Option Addr) (len cap : Nat) (w : World) :
    Calls Tryz.prog 93 #[.slice a len cap] w fun e w' => e = .returned (.func (.func 108) #[] #[.pointer (some ⟨w.heap.size, 0, none⟩)]) ∧ w' = w.alloc (.cells #[.slice a len cap] 24) :=
  callsIn_wide.1 (Q.values_in Fence.wide 6 trivial rfl a len cap w)
set_option maxHeartbeats 2000000 in
set_option maxRecDepth 100000 in
theorem slicesSorted (Bs cap : Nat) (A : Option Addr) (zs : List Int) (hreach : zs.length * 8 ≤ 140737488351232) (w : World) (hBs : Bs < w.heap.size)
    (hcs : w.cell? ⟨Bs, 0, none⟩ = some (.slice A zs.length cap)) (hI : Q.Ints w.heap.size w A zs) :
    Calls Tryz.prog 92 #[.func (.func 108) #[] #[.pointer (some ⟨Bs, 0, none⟩)]] w fun e W' => ∃ v, e = .returned v ∧ W'.ownsRow w.heap.size 3 1 v zs.length ((sortZ zs).map (Value.int .i64)) ∧ (v = .slice none 0 0 ↔ zs = []) ∧ Below w.heap.size w W' := by
  have hcol := collectC Bs cap A zs hreach w hBs hcs hI
  clear hcs hI hBs
  go_enter Tryz.func92, Tryz.ntmps92
  go_wp2_with (go_at_call 106; refine hcol.mono ?_; rintro e W ⟨v, rfl, hrow, hnil, hb⟩)
  rcases hrow.2 with ⟨rfl, hz⟩ | ⟨gb, cap', cur, rfl, hbase, hgb, r1, r2, r3, r4⟩
  · have hss : zs = [] := List.eq_nil_of_length_eq_zero hz
    subst hss
    go_wp2_with (go_at_call 107; refine (Tryz.slices_Sort_int_none none 0 W).mono ?_; rintro e w' ⟨rfl, rfl⟩)
    go_ret
    exact ⟨_, rfl, by simpa [sortZ] using hrow, by simp, hb⟩
  · have hH : Holds (Value.int .i64) W gb 0 zs.toArray := holds_of_block_i hgb (by simpa using r4)
    have hgl : gb < W.heap.size := (Array.getElem?_eq_some_iff.1 hgb).1
    have hsz : zs.length < 4611686018427387904 := by omega
    have cS := Tryz.slices_Sort_int gb 0 cap' zs W hH hgl hsz
    go_wp2_with (go_at_call 107; refine cS.mono ?_; rintro e w' ⟨rfl, nn, os, rfl⟩)
    go_ret
    exact ⟨_, rfl, ownsRow_sorted_i (sortZ_len zs) hbase hgb r1 r2 r3, hnil, hb.grown (grownBy_sorted_i _) hb.size (fun j hj => by cases hj; exact hbase)⟩
set_option maxHeartbeats 2000000 in
set_option maxRecDepth 100000 in
/-- impl.sorted: a row of the call's own. -/
theorem sorted_own (A0 : Option Addr) (c0 : Nat) (l0 : List Int) (w : World) (hr0 : Kd.C (Kd.int .i64) w A0 l0.length l0) (hreach : l0.length * 8 ≤ 140737488351232) :
    Calls Tryz.prog 72 #[.slice A0 l0.length c0] w fun e w' => ∃ v, e = .returned v ∧ w'.ownsRow w.heap.size 3 1 v l0.length ((sortZ l0).map (Value.int .i64)) ∧ (v = .slice none 0 0 ↔ l0 = []) ∧ Below w.heap.size w w' := by
  have hb0 : Below w.heap.size w (w.alloc (.cells #[.slice A0 l0.length c0] 24)) := (Below.refl _ w).alloc (Nat.le_refl _) _
  have hI : Q.Ints (w.alloc (.cells #[.slice A0 l0.length c0] 24)).heap.size (w.alloc (.cells #[.slice A0 l0.length c0] 24)) A0 l0 := fun j hj => by
    obtain ⟨ad, e, h1, h2⟩ := (ints_of_C hr0).below hb0 j hj
    exact ⟨ad, e, Nat.lt_of_lt_of_le h1 hb0.size, h2⟩
  have hcall := slicesSorted w.heap.size c0 A0 l0 hreach (w.alloc (.cells #[.slice A0 l0.length c0] 24)) (by simp) (Boxed.new w 24 _).cell hI
  clear hr0 hI
  go_enter Tryz.func72, Tryz.ntmps72
  go_wp2_with (first | (go_at_call 93; refine (valuesC _ _ _ _).mono ?_; rintro e w' ⟨rfl, rfl⟩) | (go_at_call 92; refine hcall.mono ?_; rintro e w' ⟨v, rfl, hrow, hnil, hb⟩))
  go_ret
  refine ⟨v, rfl, ?_, hnil, hb0.trans (hb.mono hb0.size)⟩
  obtain ⟨h1, h2⟩ := hrow
  refine ⟨h1, h2.imp id ?_⟩
  rintro ⟨g, cap, cur, e, hg, h⟩
  exact ⟨g, cap, cur, e, Nat.le_trans hb0.size hg, h⟩
def impl_sorted.f (l0 : List Int) : Option (List Int) := if l0.length ≤ 17592186043904 then some (sortZ l0) else none
theorem impl_sorted.calls (A0 : Option Addr) (c0 : Nat) (l0 : List Int) (r : List Int) (w : World) (hr0 : Kd.C (Kd.int .i64) w A0 l0.length l0) (hc0 : l0.length ≤ c0) (h : impl_sorted.f l0 = some r) :
    Calls Tryz.prog 72 #[.slice A0 l0.length c0] w fun e w' => ∃ v0_ : Value, e = .returned (v0_) ∧ Kd.R (Kd.int .i64) 3 w' w.heap.size (fun _ => True) v0_ r ∧ Below w.heap.size w w' := by
  unfold impl_sorted.f at h
  split at h
  case isFalse => cases h
  rename_i hl
  obtain rfl := Option.some.inj h
  refine (sorted_own A0 c0 l0 w hr0 (by omega)).mono ?_
  rintro e w' ⟨v, rfl, hrow, _, hb⟩
  exact ⟨v, rfl, o_R_of_own (sortZ_len l0).symm hrow (fun _ _ => trivial), hb⟩
theorem own_take {w : World} {base g n cap k : Nat} {e : TypeId} {xs : List Value} (h : w.ownsRow base e 1 (.slice (some ⟨g, 0, none⟩) n cap) n xs) (hk : k ≤ n) : w.ownsRow base e 1 (.slice (some ⟨g, 0, none⟩) k cap) k (xs.take k) := by
  obtain ⟨h1, h2⟩ := h
  rcases h2 with ⟨h, _⟩ | ⟨g', cap', cur, e', hb, hg, hn, hc, hs, ht⟩
  · cases h
  · cases e'
    refine ⟨by rw [List.length_take]; omega, .inr ⟨g, cap, cur, rfl, hb, hg, by omega, hc, hs, ?_⟩⟩
    rw [← ht, List.take_take]
    congr 1
    omega
def negKey (x : Int) : Bool := decide (x < 0)
def keysZ (l : List Int) : List Int := (sortZ l).filter fun x => !negKey x
theorem keys_pred (x : Int) (W : World) : FnGives Tryz.prog 73 #[] #[.int .i64 x] (.bool (negKey x)) W := by
  unfold FnGives
  simp only [List.append_toArray, List.append_nil]
  go_enter Tryz.func73, Tryz.ntmps73
  go_wp2
  go_ret
  exact ⟨rfl, 0, rfl⟩
def impl_Table_keys.f (l0_0 : List Int) : Option (List Int) := if 1 ≤ l0_0.length ∧ l0_0.length ≤ 1000000 then some (keysZ l0_0) else none
set_option maxHeartbeats 4000000 in
set_option maxRecDepth 100000 in
theorem impl_Table_keys.calls (A0_0 : Option Addr) (c0_0 : Nat) (l0_0 : List Int) (r : List Int) (w : World) (hr0_0 : Kd.C (Kd.int .i64) w A0_0 l0_0.length l0_0) (hc0_0 : l0_0.length ≤ c0_0) (h : impl_Table_keys.f l0_0 = some r) :
    Calls Tryz.prog 32 #[.agg #[.slice A0_0 l0_0.length c0_0]] w fun e w' => ∃ v0_ : Value, e = .returned (v0_) ∧ Kd.R (Kd.int .i64) 3 w' w.heap.size (fun _ => True) v0_ r ∧ Below w.heap.size w w' := by
  unfold impl_Table_keys.f at h
  split at h
  case isFalse => cases h
  rename_i hl
  obtain rfl := Option.some.inj h
  clear h
  have hbx : Below w.heap.size w (w.alloc (.cells #[.agg #[.slice A0_0 l0_0.length c0_0]] 26)) := (Below.refl _ w).alloc (Nat.le_refl _) _
  have hcall := fun o => sorted_own A0_0 c0_0 l0_0 (w.alloc o) (Kd.C_alloc hr0_0 o) (by omega)
  clear hr0_0
  go_enter Tryz.func32, Tryz.ntmps32
  go_wp2_with (go_at_call 72; refine (hcall _).mono ?_; rintro e w1 ⟨v, rfl, hrow, hnil, hb⟩)
  rcases hrow.2 with ⟨rfl, hz⟩ | ⟨gb, cap', cur, rfl, hbase, hgb, r1, r2, r3, r4⟩
  · omega
  · have hsl := sortZ_len l0_0
    have hH : Holds (Value.int .i64) w1 gb 0 (sortZ l0_0).toArray := holds_of_block_i hgb (by rw [hsl]; simpa using r4)
    have hD := Tryz.slices_DeleteFunc (Value.int .i64) (fun _ => rfl) negKey 73 #[] (enters_of Tryz.func73 (by kernel_rfl) rfl) 0 (fun w => Tryz.zeroValue3 w) gb 0 cap' (sortZ l0_0).toArray w1 (fun W x _ => keys_pred x W) (fun n os dk x _ => keys_pred x _) hH (by simp; omega) (by simp; omega)
    simp only [List.size_toArray, hsl] at hD
    go_wp2_with (go_at_call 71; refine hD.mono ?_; rintro e w2 ⟨rfl, q, rfl⟩)
    go_ret
    have hfl : ((sortZ l0_0).filter fun x => !negKey x).length ≤ l0_0.length := by have := List.length_filter_le (fun x => !negKey x) (sortZ l0_0); omega
    have hg := grownBy_sorted_i (w := w1) (g := gb) (n := q) (os := #[]) (((sortZ l0_0).filter fun x => !negKey x) ++ List.replicate (l0_0.length - ((sortZ l0_0).filter fun x => !negKey x).length) 0).toArray
    have ho := ownsRow_sorted_i (w := w1) (n := q) (os := #[]) (ss := sortZ l0_0) (ts := ((sortZ l0_0).filter fun x => !negKey x) ++ List.replicate (l0_0.length - ((sortZ l0_0).filter fun x => !negKey x).length) 0) (by simp; omega) hbase hgb (by omega) r2 r3
    rw [hsl] at ho
    have hk := own_take ho hfl
    rw [List.map_append, List.take_left' (by simp)] at hk
    refine ⟨_, rfl, Kd.R_lower (o_R_of_own rfl (by rw [grow_empty] at hk; exact hk) (fun _ _ => trivial)) (below_size (below_alloc (Below.refl w.heap.size w) _)), ?_⟩
    have hb2 : Below w.heap.size w w1 := below_step (below_alloc (Below.refl w.heap.size w) _) hb
    exact hb2.grown (by rw [grow_empty] at hg; exact hg) hb2.size (fun j hj => by cases hj; exact Nat.le_trans (below_size (below_alloc (Below.refl w.heap.size w) _)) hbase)
theorem isSizeC (a : Int) (w : World) : Calls Tryz.prog 60 #[.int .i64 a] w fun e w' => e = .returned (.bool (decide (2 ≤ a ∧ a ≤ 12))) ∧ Below w.heap.size w w' := by
  by_cases h1 : 2 ≤ a
  · by_cases h2 : a ≤ 12
    · have e1 : decide (2 ≤ a ∧ a ≤ 12) = true := decide_eq_true ⟨h1, h2⟩
      rw [e1]
      clear e1
      have d1 : decide (2 ≤ a) = true := decide_eq_true h1
      have d2 : decide (a ≤ 12) = true := decide_eq_true h2
      go_enter Tryz.func60, Tryz.ntmps60
      go_wp2_with go_in
      go_ret
      exact ⟨rfl, Below.refl _ _⟩
    · have e1 : decide (2 ≤ a ∧ a ≤ 12) = false := decide_eq_false (fun h => h2 h.2)
      rw [e1]
      clear e1
      have d1 : decide (2 ≤ a) = true := decide_eq_true h1
      have d2 : decide (a ≤ 12) = false := decide_eq_false h2
      go_enter Tryz.func60, Tryz.ntmps60
      go_wp2_with go_in
      go_ret
      exact ⟨rfl, Below.refl _ _⟩
  · have e1 : decide (2 ≤ a ∧ a ≤ 12) = false := decide_eq_false (fun h => h1 h.1)
    rw [e1]
    clear e1
    have d1 : decide (2 ≤ a) = false := decide_eq_false h1
    go_enter Tryz.func60, Tryz.ntmps60
    go_wp2_with go_in
    go_ret
    exact ⟨rfl, Below.refl _ _⟩
def areKeysB (l : List Int) (a : Int) : Bool := decide (2 ≤ a ∧ a ≤ 12) && decide ((l.length : Int) < a) && (l.all fun x => decide (0 ≤ x) && decide (x ≤ 999)) && decide ((Go.Lib.compact (sortZ l)).length = l.length)
def impl_areKeys.f (l0 : List Int) (a1 : Int) : Option Bool := if l0.length ≤ 1048576 then some (areKeysB l0 a1) else none
set_option maxHeartbeats 8000000 in
set_option maxRecDepth 100000 in
theorem impl_areKeys.calls (A0 : Option Addr) (c0 : Nat) (l0 : List Int) (a1 : Int) (r : Bool) (w : World) (hr0 : Kd.C (Kd.int .i64) w A0 l0.length l0) (hc0 : l0.length ≤ c0) (h : impl_areKeys.f l0 a1 = some r) :
    Calls Tryz.prog 41 #[.slice A0 l0.length c0, .int .i64 a1] w fun e w' => e = .returned (.bool r) ∧ Below w.heap.size w w' := by
  unfold impl_areKeys.f at h
  split at h
  case isFalse => cases h
  rename_i hl
  obtain rfl := Option.some.inj h
  clear h
  have hcall := sorted_own A0 c0 l0 w hr0 (by omega)
  have HR := Aside0.mk hr0
  have HC := Aside0.mk hc0
  have HL := Aside0.mk hl
  clear hr0 hc0 hl
  have hsl := sortZ_len l0
  go_enter Tryz.func41, Tryz.ntmps41
  go_wp2_with (go_at_call 72; refine hcall.mono ?_; rintro e w1 ⟨v, rfl, hrow, hnil, hb⟩)
  obtain ⟨s1, hs1⟩ : ∃ s1, s1 = decide (2 ≤ a1 ∧ a1 ≤ 12) := ⟨_, rfl⟩
  obtain ⟨s2, hs2⟩ : ∃ s2, s2 = decide ((l0.length : Int) < a1) := ⟨_, rfl⟩
  obtain ⟨s3, hs3⟩ : ∃ s3, s3 = (l0.all fun x => decide (0 ≤ x) && decide (x ≤ 999)) := ⟨_, rfl⟩
  obtain ⟨m, hm⟩ : ∃ m, m = (Go.Lib.compact (sortZ l0)).length := ⟨_, rfl⟩
  obtain ⟨s4, hs4⟩ : ∃ s4, s4 = decide (m = l0.length) := ⟨_, rfl⟩
  have HF : Aside0 (areKeysB l0 a1 = (s1 && s2 && s3 && s4)) := ⟨by rw [areKeysB, hs1, hs2, hs3, hs4, hm]⟩
  have HS1 := Aside0.mk hs1
  have HS3 := Aside0.mk hs3
  have HM := Aside0.mk hm
  have c2 : decide ((l0.length : Int) < a1) = s2 := hs2.symm
  have c4 : ((m : Int) == (l0.length : Int)) = s4 := by rw [hs4, Bool.eq_iff_iff, beq_iff_eq, decide_eq_true_iff]; omega
  clear hs1 hs2 hs3 hm
  rcases hrow.2 with ⟨rfl, hz⟩ | ⟨gb, cap', cur, rfl, hbase, hgb, r1, r2, r3, r4⟩
  · obtain rfl : l0 = [] := List.eq_nil_of_length_eq_zero hz
    obtain rfl : s3 = true := HS3.out
    obtain rfl : s4 = true := by rw [hs4, HM.out]; simp [sortZ, Go.Lib.compact, Go.Lib.compactUpTo]
    have c3 : decide ((0 : Int) < a1) = s2 := c2
    clear hs4 c4 c2 HS3 HM
    have HB := Aside0.mk hb
    have HR2 := Aside0.mk (Kd.C_below HR.out hb)
    clear hb hrow hcall hnil hz hsl
    go_wp2_with (go_at_call 75; refine (Tryz.slices_Compact_int_empty none 0 w1).mono ?_; rintro e w2 ⟨rfl, rfl⟩)
    cases s1 with
    | false =>
      go_wp2_with (first | (go_at_call 60; refine (isSizeC a1 _).mono ?_; rintro e w3 ⟨rfl, hb3⟩; rw [← HS1.out]; have nB_ := Aside0.mk (below_step HB.out hb3); have nR_ := Aside0.mk (Kd.C_below HR2.out hb3); clear HB HR2 hb3; have HB := nB_; have HR2 := nR_; clear nB_ nR_))
      go_ret
      exact ⟨by rw [HF.out]; rfl, HB.out⟩
    | true =>
      cases s2 with
      | false =>
        go_wp2_with (first | (go_at_call 60; refine (isSizeC a1 _).mono ?_; rintro e w3 ⟨rfl, hb3⟩; rw [← HS1.out]; have nB_ := Aside0.mk (below_step HB.out hb3); have nR_ := Aside0.mk (Kd.C_below HR2.out hb3); clear HB HR2 hb3; have HB := nB_; have HR2 := nR_; clear nB_ nR_))
        go_ret
        exact ⟨by rw [HF.out]; rfl, HB.out⟩
      | true =>
        go_wp2_with (first | (go_at_call 60; refine (isSizeC a1 _).mono ?_; rintro e w3 ⟨rfl, hb3⟩; rw [← HS1.out]; have nB_ := Aside0.mk (below_step HB.out hb3); have nR_ := Aside0.mk (Kd.C_below HR2.out hb3); clear HB HR2 hb3; have HB := nB_; have HR2 := nR_; clear nB_ nR_) | (go_at_call 62; refine (impl_areBetween.calls _ _ [] 0 999 _ _ HR2.out HC.out rfl).mono ?_; rintro e w3 ⟨rfl, hb3⟩; have nB_ := Aside0.mk (below_step HB.out hb3); clear HB HR2 hb3; have HB := nB_; clear nB_))
        go_ret
        exact ⟨by rw [HF.out]; rfl, HB.out⟩
  · have hH : Holds (Value.int .i64) w1 gb 0 (sortZ l0).toArray := holds_of_block_i hgb (by rw [hsl]; simpa using r4)
    have hD := Tryz.slices_Compact_int gb 0 cap' (sortZ l0) w1 hH (by have := HL.out; omega) (by omega)
    simp only [hsl, ← HM.out] at hD
    clear hs4
    go_wp2_with (go_at_call 75; refine hD.mono ?_; rintro e w2 ⟨rfl, q, hw2⟩; have hb2_ : Below w.heap.size w w2 := (by rw [hw2]; exact hb.grown (by have hg := grownBy_sorted_i (w := w1) (g := gb) (n := q) (os := #[]) (Go.Lib.compact (sortZ l0) ++ List.replicate (l0.length - m) 0).toArray; rw [grow_empty] at hg; exact hg) hb.size (fun j hj => by cases hj; exact hbase)); have HB := Aside0.mk hb2_; have HR2 := Aside0.mk (Kd.C_below HR.out hb2_); clear hb hb2_ hw2 hrow hgb r1 r2 r3 r4 hH hD hcall hnil)
    cases s1 with
    | false =>
      go_wp2_with (first | (go_at_call 60; refine (isSizeC a1 _).mono ?_; rintro e w3 ⟨rfl, hb3⟩; rw [← HS1.out]; have nB_ := Aside0.mk (below_step HB.out hb3); have nR_ := Aside0.mk (Kd.C_below HR2.out hb3); clear HB HR2 hb3; have HB := nB_; have HR2 := nR_; clear nB_ nR_))
      go_ret
      exact ⟨by rw [HF.out]; rfl, HB.out⟩
    | true =>
      cases s2 with
      | false =>
        go_wp2_with (first | (go_at_call 60; refine (isSizeC a1 _).mono ?_; rintro e w3 ⟨rfl, hb3⟩; rw [← HS1.out]; have nB_ := Aside0.mk (below_step HB.out hb3); have nR_ := Aside0.mk (Kd.C_below HR2.out hb3); clear HB HR2 hb3; have HB := nB_; have HR2 := nR_; clear nB_ nR_))
        go_ret
        exact ⟨by rw [HF.out]; rfl, HB.out⟩
      | true =>
        cases s3 with
        | false =>
          go_wp2_with (first | (go_at_call 60; refine (isSizeC a1 _).mono ?_; rintro e w3 ⟨rfl, hb3⟩; rw [← HS1.out]; have nB_ := Aside0.mk (below_step HB.out hb3); have nR_ := Aside0.mk (Kd.C_below HR2.out hb3); clear HB HR2 hb3; have HB := nB_; have HR2 := nR_; clear nB_ nR_) | (go_at_call 62; refine (impl_areBetween.calls _ _ l0 0 999 _ _ HR2.out HC.out rfl).mono ?_; rintro e w3 ⟨rfl, hb3⟩; rw [← HS3.out]; have nB_ := Aside0.mk (below_step HB.out hb3); clear HB HR2 hb3; have HB := nB_; clear nB_))
          go_ret
          exact ⟨by rw [HF.out]; rfl, HB.out⟩
        | true =>
          cases s4 with
          | false =>
            go_wp2_with (first | (go_at_call 60; refine (isSizeC a1 _).mono ?_; rintro e w3 ⟨rfl, hb3⟩; rw [← HS1.out]; have nB_ := Aside0.mk (below_step HB.out hb3); have nR_ := Aside0.mk (Kd.C_below HR2.out hb3); clear HB HR2 hb3; have HB := nB_; have HR2 := nR_; clear nB_ nR_) | (go_at_call 62; refine (impl_areBetween.calls _ _ l0 0 999 _ _ HR2.out HC.out rfl).mono ?_; rintro e w3 ⟨rfl, hb3⟩; rw [← HS3.out]; have nB_ := Aside0.mk (below_step HB.out hb3); clear HB HR2 hb3; have HB := nB_; clear nB_))
            go_ret
            exact ⟨by rw [HF.out]; rfl, HB.out⟩
          | true =>
            obtain rfl : m = l0.length := by have := beq_iff_eq.mp c4; omega
            clear c4
            go_wp2_with (first | (go_at_call 60; refine (isSizeC a1 _).mono ?_; rintro e w3 ⟨rfl, hb3⟩; rw [← HS1.out]; have nB_ := Aside0.mk (below_step HB.out hb3); have nR_ := Aside0.mk (Kd.C_below HR2.out hb3); clear HB HR2 hb3; have HB := nB_; have HR2 := nR_; clear nB_ nR_) | (go_at_call 62; refine (impl_areBetween.calls _ _ l0 0 999 _ _ HR2.out HC.out rfl).mono ?_; rintro e w3 ⟨rfl, hb3⟩; rw [← HS3.out]; have nB_ := Aside0.mk (below_step HB.out hb3); clear HB HR2 hb3; have HB := nB_; clear nB_))
            go_ret
            exact ⟨by rw [HF.out]; rfl, HB.out⟩
end Go.Proofs.YteakjjimkagmkaaGreatDoor.G
namespace Go.Proofs.YteakjjimkagmkaaGreatDoor.G
open Go.RowKit Go.Proofs.YteakjjimkagmkaaGreatDoorW.PrintWords Go.Proofs.YteakjjimkagmkaaGreatDoorW.PrintLast Go.Proofs.YteakjjimkagmkaaGreatDoorW.PrintMore
def PredM (g : Nat) (lb : Array Value) (p : Int → Bool) (l : List Int) (w : World) : Prop :=
  ∀ (W : World) (x : Int), x ∈ l → Below w.heap.size w W → Calls Tryz.prog g (#[.int .i64 x] ++ lb) W fun e w' => e = .returned (.bool (p x)) ∧ Below W.heap.size W w'
set_option maxHeartbeats 2000000 in
theorem slices_IndexFunc.callsM (A : Option Addr) (c : Nat) (l : List Int) (g : Nat) (lb : Array Value) (p : Int → Bool) (w : World)
    (eg : ∀ args w, (callFunc g args).run Tryz.prog w = .ok (.enter g args) w)
    (hp0 : PredM g lb p l w) (hr : Kd.C (Kd.int .i64) w A l.length l) (hc : l.length ≤ c) :
    Calls Tryz.prog 63 #[.slice A l.length c, .func (.func g) #[] lb] w fun e w' => e = .returned (.int .i64 (idxF p l 0)) ∧ Below w.heap.size w w' := by
  have hbig : l.length ≤ 9223372036854775807 := hr.2.1
  have HR := Aside0.mk hr
  have HP := Aside0.mk hp0
  clear hr hc hp0
  go_enter Tryz.func63, Tryz.ntmps63
  go_wp2
  go_loopg [5, 8] l.length (fun gg _ s8 wr => ∃ kk : Nat, kk ≤ l.length ∧ l.length - kk ≤ gg ∧ s8 = .int .i64 kk ∧ Aside0 (Below w.heap.size w wr) ∧ Aside0 (∀ j, j < kk → p (l.getD j 0) = false))
  case atStart => exact ⟨0, Nat.zero_le _, by omega, rfl, ⟨Below.refl _ _⟩, ⟨fun j hj => absurd hj (Nat.not_lt_zero _)⟩⟩
  case round =>
    obtain ⟨kk, hkk, hg, rfl, HB, AA⟩ := hrel
    by_cases hlt : kk < l.length
    · have hltz : (kk : Int) < (l.length : Int) := by omega
      obtain ⟨ad, rfl, hx⟩ := Kd.at_int (Kd.C_below HR.out HB.out) (kk : Int) (by omega) hltz
      rw [Int.toNat_natCast] at hx
      obtain ⟨y, hy⟩ : ∃ y, y = rd l (kk : Int) := ⟨_, rfl⟩
      rw [← hy] at hx
      have B : Aside0 (l.getD kk 0 = y) := ⟨by rw [hy, rd, Int.toNat_natCast]⟩
      have hmem : y ∈ l := by rw [← B.out, List.getD_eq_getElem?_getD, List.getElem?_eq_getElem hlt]; exact List.getElem_mem hlt
      clear hy
      have hcall := Aside0.mk (fun W (hb : Below w.heap.size w W) => HP.out W y hmem hb)
      clear hmem
      cases hq : p y with
      | true =>
        rw [hq] at hcall
        go_wp2_with (go_at_fn g; refine (hcall.out _ (by first | exact HB.out | exact below_drew1 HB.out | exact pw_below_drewN HB.out _)).mono ?_; rintro e w' ⟨rfl, hb⟩; have nB_ := Aside0.mk (below_step (by first | exact HB.out | exact below_drew1 HB.out | exact pw_below_drewN HB.out _) hb); clear HB hb; have HB := nB_; clear nB_)
        go_ret
        refine ⟨?_, HB.out⟩
        rw [idxF_hit p l kk 0 hlt AA.out (by rw [B.out]; exact hq)]
        simp
      | false =>
        rw [hq] at hcall
        go_wp2_with (go_at_fn g; refine (hcall.out _ (by first | exact HB.out | exact below_drew1 HB.out | exact pw_below_drewN HB.out _)).mono ?_; rintro e w' ⟨rfl, hb⟩; have nB_ := Aside0.mk (below_step (by first | exact HB.out | exact below_drew1 HB.out | exact pw_below_drewN HB.out _) hb); clear HB hb; have HB := nB_; clear nB_)
        go_roundg (l.length - (kk + 1))
        case measure => omega
        case rel =>
          refine ⟨kk + 1, by omega, by omega, by go_num, HB, ⟨fun j hj => ?_⟩⟩
          by_cases e : j = kk
          · subst e
            rw [B.out]; exact hq
          · exact AA.out j (by omega)
    · have hltz : ¬ (kk : Int) < (l.length : Int) := by omega
      obtain rfl : kk = l.length := by omega
      go_wp2
      go_ret
      refine ⟨?_, HB.out⟩
      rw [idxF_miss p l 0 AA.out]; rfl
def wayS (l S : List Int) (key : Int) : Nat → Nat → Bool
  | 0, _ => true
  | d + 1, k => decide (l.getD ((key.toNat + k) % l.length) 0 ∈ S) && wayS l S key d (k + 1)
theorem mp_zero (w : World) : (zeroValue 4).run Tryz.prog w = .ok (.bool false) w := by kernel_rfl
set_option maxHeartbeats 4000000 in
set_option maxRecDepth 100000 in
theorem comesC (A : Option Addr) (c0 : Nat) (l : List Int) (key at_ : Int) (cst K0 b nb : Nat) (S : List Int) (w : World)
    (hr : Kd.C (Kd.int .i64) w A l.length l) (hc : l.length ≤ c0) (hm : MapIs Tryz.prog 3 4 w b nb S) (h1 : 1 ≤ l.length) (h2 : l.length ≤ 1000)
    (hcells : ∀ j, j < l.length → -1 ≤ l.getD j 0 ∧ l.getD j 0 ≤ 999) (hk0 : 0 ≤ key) (hk9 : key ≤ 999) (hix : slices_Index_int_int.f K0 l key = some at_) (hcost : impl_Table_cost.f l at_ = some (cst : Int)) (hcl : cst ≤ 1000) :
    Calls Tryz.prog 65 #[.agg #[.slice A l.length c0], .int .i64 key, .map (some b)] w fun e w' => e = .returned (.bool (wayS l S key cst 0 && !decide (key ∈ S))) ∧ Below w.heap.size w w' := by
  have HR := Aside0.mk hr
  have HC := Aside0.mk hc
  have HM := Aside0.mk hm
  have HIX := Aside0.mk hix
  have HCO := Aside0.mk hcost
  have HL := Aside0.mk (show 1 ≤ l.length ∧ l.length ≤ 1000 ∧ 0 ≤ key ∧ key ≤ 999 ∧ cst ≤ 1000 from ⟨h1, h2, hk0, hk9, hcl⟩)
  have HCE := Aside0.mk hcells
  have HB := Aside0.mk (Below.refl w.heap.size w)
  clear hr hc hm hix hcost h1 h2 hk0 hk9 hcl hcells
  go_enter Tryz.func65, Tryz.ntmps65
  go_wp2_with (first
    | ((with_reducible refine gate_dst (N := 3) rfl ?_); refine box_event ?hg (N := 3) ?hd (cs := #[.slice A l.length c0]) (t := 26) ?hr ?_; (case hd => rfl); (case hg => rfl); (case hr => first | (go_simp; done) | (go_simp; rfl)); intro gb hg w4 hbox hb; have nB_ := Aside0.mk (below_step HB.out hb); have BK := Aside0.mk hbox; have GE := Aside0.mk ((by rw [hg]; exact below_size HB.out) : w.heap.size ≤ gb); clear HB; have HB := nB_; clear nB_ hb hbox hg; have hcz := (blk_cell BK.out 0).trans rfl)
    | (go_at_call 47; refine (slices_Index_int_int.calls K0 _ _ l key at_ _ ?s1 HC.out HIX.out).mono ?_; (case s1 => exact Kd.C_below HR.out HB.out); rintro e w5 ⟨rfl, ⟨nd, rfl⟩⟩)
    | (go_at_call 48; refine (impl_Table_cost.calls _ _ l at_ (cst : Int) _ ?s1 HC.out HCO.out).mono ?_; (case s1 => exact Kd.C_drewN (Kd.C_below HR.out HB.out) _); rintro e w6 ⟨rfl, hb⟩; have nB_ := Aside0.mk (below_step (pw_below_drewN HB.out _) hb); have nK_ := Aside0.mk (blk_below (g := gb) (blk_drewN BK.out _) hb); clear HB BK hb; have HB := nB_; have BK := nK_; clear nB_ nK_))
  go_loopg [8, 16] cst (fun gg _ s16 wr => ∃ k : Nat, Aside0 (k ≤ cst) ∧ Aside0 (cst - k ≤ gg) ∧ s16 = .int .i64 (k : Int) ∧ Aside0 (wr.heap[gb]? = some (.cells #[.slice A l.length c0] 26 (0, 0))) ∧ Aside0 (Below w.heap.size w wr) ∧ Aside0 (wayS l S key cst 0 = wayS l S key (cst - k) k))
  case atStart => exact ⟨0, ⟨Nat.zero_le _⟩, ⟨by omega⟩, rfl, ⟨BK.out⟩, ⟨HB.out⟩, ⟨rfl⟩⟩
  case round =>
    clear BK HB
    obtain ⟨k, HKL, HG, rfl, BK, HB, HW⟩ := hrel
    obtain ⟨z, hz⟩ : ∃ z : Int, z = (k : Int) := ⟨_, rfl⟩
    rw [← hz]
    have HZ := Aside0.mk hz
    by_cases hlt : k < cst
    · have c1 : decide (z < (cst : Int)) = true := decide_eq_true (by omega)
      have hcz : wr.cell? ⟨gb, 0, none⟩ = some (.slice A l.length c0) := (blk_cell BK.out 0).trans rfl
      obtain ⟨y, hy⟩ : ∃ y : Int, Int.tmod (key + z) (l.length : Int) = y := ⟨_, rfl⟩
      have hyn : y = (((key.toNat + k) % l.length : Nat) : Int) := by
        have hl := HL.out
        rw [← hy, hz, show key + (k : Int) = ((key.toNat + k : Nat) : Int) by omega]; rfl
      have hylt := Nat.mod_lt (key.toNat + k) (show 0 < l.length by have := HL.out; omega)
      have hs : IntKind.i64.wrap (key + z) = key + z := by have := HL.out; rw [IntKind.wrap_i64]; omega
      have n0 : ((l.length : Int) == 0) = false := beq_eq_false_iff_ne.mpr (by omega)
      have n1 : ¬ l = [] := fun e => by rw [e] at hylt; simp at hylt
      have p1 : 0 ≤ y := by omega
      have p2 : y < (l.length : Int) := by omega
      obtain ⟨ad, rfl, hx⟩ := Kd.at_int (Kd.C_below HR.out HB.out) y p1 p2
      obtain ⟨v, hv⟩ : ∃ v, v = rd l y := ⟨_, rfl⟩
      rw [← hv] at hx
      have hvl : v = l.getD ((key.toNat + k) % l.length) 0 := by rw [hv, hyn, rd, Int.toNat_natCast]
      have hvw : (Lit.int .i64 v).wf = true := by
        have := HCE.out _ hylt
        rw [← hvl] at this
        simp only [Lit.wf, Bool.and_eq_true, decide_eq_true_eq]
        have e1 : IntKind.i64.min = -9223372036854775808 := by decide
        have e2 : IntKind.i64.max = 9223372036854775807 := by decide
        rw [e1, e2]; omega
      obtain ⟨cb, hcb⟩ : ∃ cb : Bool, cb = decide (v ∈ S) := ⟨_, rfl⟩
      have hlk : ∀ q : Nat, (Instr.lookup 51 (.map (some b)) (.int .i64 v) false).run Tryz.prog (wr.drewN q) = .ok (.bool cb) (wr.drewN q) := fun q => by
        rw [hcb]
        exact MapIs.look (T := 51) (K := 3) (E := 4) Tryz.underlying51 Tryz.underlying3 Tryz.underlying4 (HM.out.below HM.out.lt (pw_below_drewN HB.out q)) (mp_zero _) hvw
      have HV := Aside0.mk hvl
      have HCB := Aside0.mk hcb
      have q1 := eq_true p1
      have q2 := eq_true p2
      clear hz hyn hylt p1 p2 hv hvl hvw hcb
      go_wp2
      refine wp_region_quiet_lit (by kernel_rfl) (by kernel_rfl) ?_
      refine wpQuiet_step (fun K hK => ?_)
      go_simp
      refine hK _ ?_
      clear hK K
      refine wpQuiet_step (fun K hK => ?_)
      go_simp
      refine hK _ ?_
      clear hK K
      refine wpQuiet_step (fun K hK => ?_)
      go_simp
      refine hK _ ?_
      clear hK K
      refine wpQuiet_step (fun K hK => ?_)
      go_simp
      refine hK _ ?_
      clear hK K
      refine wpQuiet_step (fun K hK => ?_)
      go_simp
      refine hK _ ?_
      clear hK K
      refine wpQuiet_step (fun K hK => ?_)
      go_simp
      refine hK _ ?_
      clear hK K
      refine wpQuiet_step (fun K hK => ?_)
      go_simp
      refine hK _ ?_
      clear hK K
      refine wpQuiet_step (fun K hK => ?_)
      go_simp
      refine hK _ ?_
      clear hK K
      refine wpQuiet_step (fun K hK => ?_)
      go_simp
      refine hK _ ?_
      clear hK K
      refine wpQuiet_step (fun K hK => ?_)
      go_simp
      refine hK _ ?_
      clear hK K
      refine wpQuiet_step (fun K hK => ?_)
      go_simp
      refine hK _ ?_
      clear hK K
      refine wpQuiet_step (fun K hK => ?_)
      go_simp
      refine hK _ ?_
      clear hK K
      refine wpQuiet_step (fun K hK => ?_)
      go_simp
      refine hK _ ?_
      clear hK K
      refine wpQuiet_step (fun K hK => ?_)
      go_simp
      refine hK _ ?_
      clear hK K
      refine wpQuiet_nil ?_
      intro _ hw'
      obtain ⟨nq, hw''⟩ := hw'
      subst hw''
      cases cb with
      | true =>
        have hb2 := pw_below_drewN HB.out nq
        have hk2 := blk_drewN BK.out nq
        have HB2 := Aside0.mk hb2
        have BK2 := Aside0.mk hk2
        clear hb2 hk2
        go_wp2
        go_roundg (gk - 1)
        case measure => have := HG.out; omega
        case rel =>
          refine ⟨k + 1, ⟨by omega⟩, ⟨by have := HG.out; omega⟩, by have h1 := HZ.out; have h2 := HL.out; have h3 : wrap64 (z + 1) = ((k + 1 : Nat) : Int) := (by unfold wrap64; omega); rw [h3], ⟨BK2.out⟩, ⟨HB2.out⟩, ⟨?_⟩⟩
          rw [HW.out, show cst - k = (cst - (k + 1)) + 1 by omega, wayS, ← HV.out, ← HCB.out, Bool.true_and]
      | false =>
        have hb2 := pw_below_drewN HB.out nq
        have HB2 := Aside0.mk hb2
        clear hb2
        go_wp2
        go_ret
        refine ⟨?_, HB2.out⟩
        rw [HW.out, show cst - k = (cst - (k + 1)) + 1 by omega, wayS, ← HV.out, ← HCB.out, Bool.false_and, Bool.false_and]
        rfl
    · have c1 : decide (z < (cst : Int)) = false := decide_eq_false (by omega)
      obtain ⟨cb, hcb⟩ : ∃ cb : Bool, cb = decide (key ∈ S) := ⟨_, rfl⟩
      have hkw : (Lit.int .i64 key).wf = true := by
        have := HL.out
        simp only [Lit.wf, Bool.and_eq_true, decide_eq_true_eq]
        have e1 : IntKind.i64.min = -9223372036854775808 := by decide
        have e2 : IntKind.i64.max = 9223372036854775807 := by decide
        rw [e1, e2]; omega
      have hlk : (Instr.lookup 51 (.map (some b)) (.int .i64 key) false).run Tryz.prog wr = .ok (.bool cb) wr := by
        rw [hcb]
        exact MapIs.look (T := 51) (K := 3) (E := 4) Tryz.underlying51 Tryz.underlying3 Tryz.underlying4 (HM.out.below HM.out.lt HB.out) (mp_zero _) hkw
      have HCB := Aside0.mk hcb
      clear hz hcb hkw
      go_wp2
      go_ret
      refine ⟨?_, HB.out⟩
      rw [HW.out, show cst - k = 0 by omega, wayS, Bool.true_and, ← HCB.out]
      rfl
theorem MapIs.ne_cells {P : Program} {K E : TypeId} {W : World} {b n : Nat} {S : List Int} (h : MapIs P K E W b n S) {g t : Nat} {cs : Array Value} {z : Nat × Nat} (hg : W.heap[g]? = some (.cells cs t z)) : g ≠ b := by
  obtain ⟨D, ⟨es, clock, h0, _⟩, _⟩ := h
  intro e
  subst e
  rw [h0] at hg
  cases hg
set_option maxHeartbeats 4000000 in
theorem firstP (A : Option Addr) (c0 : Nat) (l : List Int) (ats : Int → Int) (cst : Int → Nat) (K0 b nb : Nat) (S : List Int) (bx dc : Nat) (ks : List Int) (w : World)
    (hr : Kd.C (Kd.int .i64) w A l.length l) (hc : l.length ≤ c0) (hm : MapIs Tryz.prog 3 4 w b nb S)
    (hbx : w.heap[bx]? = some (.cells #[.slice A l.length c0] 26 (0, 0))) (hdc : w.heap[dc]? = some (.cells #[.map (some b)] 51 (0, 0))) (h1 : 1 ≤ l.length) (h2 : l.length ≤ 1000)
    (hcells : ∀ j, j < l.length → -1 ≤ l.getD j 0 ∧ l.getD j 0 ≤ 999)
    (hks : ∀ x, x ∈ ks → 0 ≤ x ∧ x ≤ 999 ∧ slices_Index_int_int.f K0 l x = some (ats x) ∧ impl_Table_cost.f l (ats x) = some (cst x : Int) ∧ cst x ≤ 1000) :
    PredM 64 #[.pointer (some ⟨bx, 0, none⟩), .pointer (some ⟨dc, 0, none⟩)] (fun x => wayS l S x (cst x) 0 && !decide (x ∈ S)) ks w := by
  intro W x hx hb
  obtain ⟨k1, k2, k3, k4, k5⟩ := hks x hx
  have hcall := comesC A c0 l x (ats x) (cst x) K0 b nb S W (Kd.C_below hr hb) hc (hm.below hm.lt hb) h1 h2 hcells k1 k2 k3 k4 k5
  have BK := Aside0.mk ((hb.block bx (blk_lt hbx)).trans hbx)
  have DC := Aside0.mk ((hb.block dc (blk_lt hdc)).trans hdc)
  generalize hp : (wayS l S x (cst x) 0 && !decide (x ∈ S)) = pb
  simp only [hp]
  rw [hp] at hcall
  clear hb hr hc hm hbx hdc h1 h2 hcells hks k1 k2 k3 k4 k5 hx hp
  simp only [List.append_toArray, List.append_nil]
  have hcz := (blk_cell BK.out 0).trans rfl
  have hcd := (blk_cell DC.out 0).trans rfl
  go_enter Tryz.func64, Tryz.ntmps64
  go_wp2_with (go_at_call 65; refine hcall.mono ?_; rintro e w5 ⟨rfl, hb⟩)
  go_ret
  exact ⟨rfl, hb⟩
def atK (l : List Int) (x : Int) : Int := (slices_Index_int_int.f 2000 l x).getD 0
def cstK (l : List Int) (x : Int) : Nat := ((impl_Table_cost.f l (atK l x)).getD 0).toNat
def keyOk (l : List Int) (x : Int) : Bool := decide (0 ≤ x) && decide (x ≤ 999) && decide (slices_Index_int_int.f 2000 l x = some (atK l x)) && decide (impl_Table_cost.f l (atK l x) = some (cstK l x : Int)) && decide (cstK l x ≤ 1000)
def cellOk (x : Int) : Bool := decide (-1 ≤ x) && decide (x ≤ 999)
def comesF (l S : List Int) (x : Int) : Bool := wayS l S x (cstK l x) 0 && !decide (x ∈ S)
def firstGo (l ks : List Int) : Nat → List Int → Option (List Int)
  | 0, S => some S
  | d + 1, S => if 0 ≤ idxF (comesF l S) ks 0 then firstGo l ks d (S ++ [rd ks (idxF (comesF l S) ks 0)]) else none
def impl_Table_first.f (l0_0 : List Int) : Option (List Int) :=
  if 1 ≤ l0_0.length ∧ l0_0.length ≤ 1000 ∧ l0_0.all cellOk = true ∧ (keysZ l0_0).all (keyOk l0_0) = true then firstGo l0_0 (keysZ l0_0) (keysZ l0_0).length [] else none
theorem idxF_lt (p : Int → Bool) : ∀ (l : List Int) (i : Int), 0 ≤ i → idxF p l i < i + l.length ∧ (idxF p l i = -1 ∨ i ≤ idxF p l i)
  | [], i, h => by simp [idxF]; omega
  | x :: r, i, h => by
    have := idxF_lt p r (i + 1) (by omega)
    by_cases c : p x = true
    · simp [idxF, c]; omega
    · simp only [idxF, c, if_false, List.length_cons]; constructor <;> omega
theorem kz_len (l : List Int) : (keysZ l).length ≤ l.length := by
  have := List.length_filter_le (fun x => !negKey x) (sortZ l)
  rw [sortZ_len] at this
  exact this
theorem rd_mem' (l : List Int) (z : Int) (h0 : 0 ≤ z) (h1 : z < l.length) : rd l z ∈ l := by
  rw [rd, List.getD_eq_getElem?_getD, List.getElem?_eq_getElem (by omega)]
  exact List.getElem_mem _
theorem blk_new (W : World) (o : Obj) : (W.alloc o).heap[W.heap.size]? = some o := Array.getElem?_push_size
theorem made3 {w : World} (w4 : World) (gb : Nat) {cs : Array Value} (hB : Below w.heap.size w w4) (hbk : w4.heap[gb]? = some (.cells cs 26 (0, 0))) :
    MapIs Tryz.prog 3 4 (((w4.alloc (Obj.cells #[] 3)).alloc (Obj.map #[] 0)).alloc (Obj.cells #[Value.map (some (w4.heap.size + 1))] 51)) (w4.heap.size + 1) 0 []
    ∧ (((w4.alloc (Obj.cells #[] 3)).alloc (Obj.map #[] 0)).alloc (Obj.cells #[Value.map (some (w4.heap.size + 1))] 51)).heap[w4.heap.size + 1 + 1]? = some (.cells #[Value.map (some (w4.heap.size + 1))] 51 (0, 0))
    ∧ (((w4.alloc (Obj.cells #[] 3)).alloc (Obj.map #[] 0)).alloc (Obj.cells #[Value.map (some (w4.heap.size + 1))] 51)).heap[gb]? = some (.cells cs 26 (0, 0))
    ∧ Kd.R (Kd.int .i64) 3 (((w4.alloc (Obj.cells #[] 3)).alloc (Obj.map #[] 0)).alloc (Obj.cells #[Value.map (some (w4.heap.size + 1))] 51)) w.heap.size (fun k => k ≠ w4.heap.size + 1) (Value.slice (some { block := w4.heap.size, off := 0 }) 0 0) []
    ∧ Below w.heap.size w (((w4.alloc (Obj.cells #[] 3)).alloc (Obj.map #[] 0)).alloc (Obj.cells #[Value.map (some (w4.heap.size + 1))] 51)) := by
  have hb4 := Below.refl w4.heap.size w4
  have hb5 := below_alloc hb4 (Obj.cells #[] 3)
  have hb6 := below_alloc hb5 (Obj.map #[] 0)
  have hb7 := below_alloc hb6 (Obj.cells #[Value.map (some (w4.heap.size + 1))] 51)
  refine ⟨?_, ?_, ?_, ?_, below_alloc (below_alloc (below_alloc hB _) _) _⟩
  · have h := MapIs.made (P := Tryz.prog) (K := 3) (E := 4) (w4.alloc (Obj.cells #[] 3))
    have e : (w4.alloc (Obj.cells #[] 3)).heap.size = w4.heap.size + 1 := by simp
    rw [e] at h
    exact h.below h.lt (below_alloc (Below.refl _ _) _)
  · have e : ((w4.alloc (Obj.cells #[] 3)).alloc (Obj.map #[] 0)).heap.size = w4.heap.size + 1 + 1 := by simp
    exact e ▸ blk_new _ _
  · exact (hb7.block gb (blk_lt hbk)).trans hbk
  · have ho : (((w4.alloc (Obj.cells #[] 3)).alloc (Obj.map #[] 0)).alloc (Obj.cells #[Value.map (some (w4.heap.size + 1))] 51)).ownsRow w.heap.size 3 1 (.slice (some ⟨w4.heap.size, 0, none⟩) 0 0) 0 (nums .i64 []) := own_alloc (own_alloc (World.ownsRow_made w4 #[] 0 (below_size hB) (Nat.zero_le _) (by simp)) _) _
    refine R_of_nums rfl ho (fun k_ hk => ?_)
    simp only [Value.ownBlock, Option.some.injEq] at hk
    omega
set_option maxHeartbeats 8000000 in
set_option maxRecDepth 100000 in
theorem impl_Table_first.calls (A0_0 : Option Addr) (c0_0 : Nat) (l0_0 : List Int) (r : List Int) (w : World) (hr0_0 : Kd.C (Kd.int .i64) w A0_0 l0_0.length l0_0) (hc0_0 : l0_0.length ≤ c0_0) (h : impl_Table_first.f l0_0 = some r) :
    Calls Tryz.prog 29 #[.agg #[.slice A0_0 l0_0.length c0_0]] w fun e w' => ∃ v0_ : Value, e = .returned (v0_) ∧ Kd.R (Kd.int .i64) 3 w' w.heap.size (fun _ => True) v0_ r ∧ Below w.heap.size w w' := by
  unfold impl_Table_first.f at h
  split at h
  case isFalse => cases h
  rename_i hl
  obtain ⟨h1, h2, hcl, hkl⟩ := hl
  have hcells : ∀ j, j < l0_0.length → -1 ≤ l0_0.getD j 0 ∧ l0_0.getD j 0 ≤ 999 := fun j hj => by
    have hm : l0_0.getD j 0 ∈ l0_0 := by rw [List.getD_eq_getElem?_getD, List.getElem?_eq_getElem hj]; exact List.getElem_mem hj
    have := List.all_eq_true.mp hcl _ hm
    simpa [cellOk] using this
  have hks : ∀ x, x ∈ keysZ l0_0 → 0 ≤ x ∧ x ≤ 999 ∧ slices_Index_int_int.f 2000 l0_0 x = some (atK l0_0 x) ∧ impl_Table_cost.f l0_0 (atK l0_0 x) = some (cstK l0_0 x : Int) ∧ cstK l0_0 x ≤ 1000 := fun x hx => by
    have := List.all_eq_true.mp hkl _ hx
    simp only [keyOk, Bool.and_eq_true, decide_eq_true_eq] at this
    exact ⟨this.1.1.1.1, this.1.1.1.2, this.1.1.2, this.1.2, this.2⟩
  have hkf : impl_Table_keys.f l0_0 = some (keysZ l0_0) := by unfold impl_Table_keys.f; rw [if_pos ⟨h1, by omega⟩]
  have HKL := Aside0.mk (Nat.le_trans (kz_len l0_0) h2)
  obtain ⟨ks, hk⟩ : ∃ ks, ks = keysZ l0_0 := ⟨_, rfl⟩
  rw [← hk] at h hks hkf HKL
  have HR := Aside0.mk hr0_0
  have HC := Aside0.mk hc0_0
  have HF := Aside0.mk h
  have HS := Aside0.mk hks
  have HCE := Aside0.mk hcells
  have HL := Aside0.mk (And.intro h1 h2)
  have HKF := Aside0.mk hkf
  have HB := Aside0.mk (Below.refl w.heap.size w)
  have hmm := @run_makeMap Tryz.prog
  clear hr0_0 hc0_0 h hks hcells hcl hkl hk h1 h2 hkf
  go_enter Tryz.func29, Tryz.ntmps29
  go_upto_region 2 with (first
    | ((with_reducible refine gate_dst (N := 1) rfl ?_); refine box_event ?hg (N := 1) ?hd (cs := #[.slice A0_0 l0_0.length c0_0]) (t := 26) ?hr ?_; (case hd => rfl); (case hg => rfl); (case hr => first | (go_simp; done) | (go_simp; rfl)); intro gb hg w4 hbox hb; have nB_ := Aside0.mk (below_step HB.out hb); have BK := Aside0.mk hbox; clear HB; have HB := nB_; clear nB_ hb hbox hg)
    | fail)
  have SW := Aside0.mk (made3 w4 gb HB.out BK.out)
  have hbb : w.heap.size ≤ w4.heap.size + 1 := Nat.le_succ_of_le (below_size HB.out)
  clear BK HB hmm
  generalize hW : (((w4.alloc (Obj.cells #[] 3)).alloc (Obj.map #[] 0)).alloc (Obj.cells #[Value.map (some (w4.heap.size + 1))] 51)) = W3 at SW ⊢
  generalize hb : w4.heap.size + 1 = b at SW hbb ⊢
  generalize hd : b + 1 = dc at SW ⊢
  generalize hv : (Value.slice (some { block := w4.heap.size, off := 0 }) 0 0) = v0 at SW ⊢
  clear hW hb hd hv
  obtain ⟨m1, m2, m3, m4, m5⟩ := SW.out
  have HM := Aside0.mk m1
  have DC := Aside0.mk m2
  have BX := Aside0.mk m3
  have HO := Aside0.mk m4
  have HB := Aside0.mk m5
  have hcz := (blk_cell m3 0).trans rfl
  clear SW m1 m2 m3 m4 m5
  go_upto_region 3 with (go_at_call 32; refine (impl_Table_keys.calls _ _ l0_0 ks _ ?s1 HC.out HKF.out).mono ?_; (case s1 => exact Kd.C_below HR.out HB.out); rintro e w5 ⟨v5, rfl, hk, hb⟩)
  clear hcz
  obtain ⟨Al, cl, rfl⟩ := Kd.R_slice hk
  have HK := Aside0.mk (Kd.R_lower (Kd.R_mono (ok' := fun k => k ≠ b ∧ some k ≠ v0.ownBlock) (Kd.R_bound hk) (fun k hk => ⟨fun e => by have := HM.out.lt; have := hk.2.1; omega, fun e => by have := Kd.R_lt HO.out k e.symm; have := hk.2.1; omega⟩)) (below_size HB.out))
  have nO := Aside0.mk (Kd.R_mono (ok' := fun k => k ≠ b ∧ some k ≠ (Value.slice Al ks.length cl).ownBlock) (Kd.R_below (Kd.R_bound HO.out) hb) (fun k hk2 => ⟨hk2.1, fun e => by have := Kd.R_base hk k e.symm; have := hk2.2.2.1; omega⟩))
  have nM := Aside0.mk (HM.out.below HM.out.lt hb)
  have nD := Aside0.mk ((hb.block dc (blk_lt DC.out)).trans DC.out)
  have nX := Aside0.mk ((hb.block gb (blk_lt BX.out)).trans BX.out)
  have nB := Aside0.mk (below_step HB.out hb)
  have HBB := Aside0.mk (show w.heap.size ≤ b from hbb)
  clear HO HM DC BX HB hk hb hbb
  go_wp2
  go_loopg [3, 13] ks.length (fun gg v3 v13 wr => ∃ (q : Nat) (S : List Int), Aside0 (firstGo l0_0 ks (ks.length - q) S = some r) ∧ Aside0 (q ≤ ks.length) ∧ Aside0 (ks.length - q ≤ gg) ∧ v13 = .int .i64 (q : Int) ∧ Aside0 (S.length = q) ∧ Aside0 (MapIs Tryz.prog 3 4 wr b q S)
    ∧ Aside0 (wr.heap[dc]? = some (.cells #[Value.map (some b)] 51 (0, 0))) ∧ Aside0 (wr.heap[gb]? = some (.cells #[.slice A0_0 l0_0.length c0_0] 26 (0, 0)))
    ∧ Aside0 (Kd.R (Kd.int .i64) 3 wr w.heap.size (fun k => k ≠ b ∧ some k ≠ v3.ownBlock) (Value.slice Al ks.length cl) ks) ∧ Aside0 (Kd.R (Kd.int .i64) 3 wr w.heap.size (fun k => k ≠ b ∧ some k ≠ (Value.slice Al ks.length cl).ownBlock) v3 S) ∧ Aside0 (Below w.heap.size w wr))
  case atStart => exact ⟨0, [], HF, ⟨Nat.zero_le _⟩, ⟨by omega⟩, rfl, ⟨rfl⟩, nM, nD, nX, HK, nO, nB⟩
  case round =>
    clear nM nD nX HK nO nB HF
    obtain ⟨q, S, HF, HQ, HG, rfl, HSL, HM, DC, BX, HK, HO, HB⟩ := hrel
    obtain ⟨z, hz⟩ : ∃ z : Int, z = (q : Int) := ⟨_, rfl⟩
    rw [← hz]
    have HZ := Aside0.mk hz
    by_cases hlt : q < ks.length
    · have c1 : decide (z < (ks.length : Int)) = true := decide_eq_true (by omega)
      have H := HF.out
      rw [show ks.length - q = (ks.length - (q + 1)) + 1 by omega, firstGo] at H
      obtain ⟨i, hi⟩ : ∃ i, i = idxF (comesF l0_0 S) ks 0 := ⟨_, rfl⟩
      rw [← hi] at H
      have hil := (idxF_lt (comesF l0_0 S) ks 0 (by omega)).1
      rw [← hi] at hil
      by_cases ci : 0 ≤ i
      · rw [if_pos ci] at H
        have HH := Aside0.mk H
        have HI := Aside0.mk hi.symm
        have p2 : i < (ks.length : Int) := by omega
        obtain ⟨ad, rfl, hx⟩ := Kd.at_int (Kd.R_reads' HK.out).2.2 i ci p2
        obtain ⟨x, hxe⟩ : ∃ x, x = rd ks i := ⟨_, rfl⟩
        have HX := Aside0.mk hxe
        have hmem : x ∈ ks := hxe ▸ rd_mem' ks i ci p2
        rw [← hxe] at hx
        have HMEM := Aside0.mk hmem
        have HCX := Aside0.mk hx
        have q1 := eq_true ci
        have q2 := eq_true p2
        clear hz H hi hil ci p2 hxe hmem HF hx
        go_upto_region 6 with (go_at_call 63; refine (slices_IndexFunc.callsM _ _ ks _ _ (comesF l0_0 S) _ (enters_of Tryz.func64 (by kernel_rfl) rfl) ?s1 ?s2 ?s3).mono ?_; (case s1 => exact firstP A0_0 c0_0 l0_0 (atK l0_0) (cstK l0_0) 2000 b q S gb dc ks _ (Kd.C_below HR.out HB.out) HC.out HM.out BX.out DC.out HL.out.1 HL.out.2 HCE.out HS.out); (case s2 => exact (Kd.R_reads' HK.out).2.2); (case s3 => exact (Kd.R_reads' HK.out).2.1); rintro e w6 ⟨rfl, hb⟩; rw [HI.out]; have hx6 := pw_cell_below hb HCX.out)
        have nM := Aside0.mk (HM.out.below HM.out.lt hb)
        have nD := Aside0.mk ((hb.block dc (blk_lt DC.out)).trans DC.out)
        have nX := Aside0.mk ((hb.block gb (blk_lt BX.out)).trans BX.out)
        have nK := Aside0.mk (Kd.R_below HK.out hb)
        have nO := Aside0.mk (Kd.R_below HO.out hb)
        have nB := Aside0.mk (below_step HB.out hb)
        clear HM DC BX HK HO HB hb hx6 HCX
        have hkw : (Lit.int .i64 x).wf = true := by
          have := HS.out x HMEM.out
          simp only [Lit.wf, Bool.and_eq_true, decide_eq_true_eq]
          have e1 : IntKind.i64.min = -9223372036854775808 := by decide
          have e2 : IntKind.i64.max = 9223372036854775807 := by decide
          rw [e1, e2]; omega
        obtain ⟨w7, hup, hM7, hg7⟩ := MapIs.put (T := 51) (K := 3) (E := 4) Tryz.underlying51 Tryz.underlying3 Tryz.underlying4 nM.out (by rw [maxLen]; have := HKL.out; omega) hkw
        have hne1 : some gb ≠ some b := fun e => nM.out.ne_cells nX.out (Option.some.inj e)
        have hne2 : some dc ≠ some b := fun e => nM.out.ne_cells nD.out (Option.some.inj e)
        have hbW : w.heap.size ≤ b := HBB.out
        have DC := Aside0.mk (blk_grown nD.out hg7 hne2)
        have BX := Aside0.mk (blk_grown nX.out hg7 hne1)
        have HK := Aside0.mk (Kd.R_grown nK.out hg7 (fun k hk e => hk.1 (Option.some.inj e)))
        have HO := Aside0.mk (Kd.R_grown nO.out hg7 (fun k hk e => hk.1 (Option.some.inj e)))
        have HB := Aside0.mk (nB.out.grown hg7 (below_size nB.out) (fun k hk => by cases hk; exact hbW))
        have HM := Aside0.mk hM7
        have hcd := (blk_cell nD.out 0).trans rfl
        clear nM nX nK nO nB hkw hM7 hg7 hne1 hne2 hbW
        go_upto_region 7 with fail
        clear hcd nD hup
        have HLM := Aside0.mk (show S.length < 17592186044416 by have := HSL.out; have := HKL.out; omega)
        go_wp2_with ((with_reducible refine gate_builtin (b := .append) (xs := #[.tmp 23, .tmp 25]) rfl ?_); at_builtin; refine Kd.R_append (Kd.int .i64) (w0 := w) w.heap.size rfl (.tmp 23) (.tmp 25) 24 3 (.int .i64 0) 8 rfl Tryz.underlying24 gv_info3 rfl (by decide) (by omega) u3 S x [.int .i64 x] (fun k_ => k_ ≠ b ∧ some k_ ≠ (Value.slice (some ad) ks.length cl).ownBlock) (fun _ => False) rfl rfl ?aP (fun _ hk => hk.elim) ?aF ?aO ?aB ?aS ?aL ?_; (case aP => exact rfl); (case aB => exact (by repeat (first | (with_reducible first | exact HB.out | apply below_alloc | apply pw_below_drewN | apply below_drew1) | exact HB.out))); (case aF => exact (fun k_ hk => ⟨fun e_ => by have := HM.out.lt; (try simp at hk); omega, fun e_ => by have := Kd.R_lt HK.out k_ e_.symm; (try simp at hk); omega⟩)); (case aO => exact (by (with_reducible repeat (first | apply Kd.R_alloc | apply Kd.R_drewN | apply Kd.R_drew)); exact HO.out)); (case aS => exact (below_size (by repeat (first | (with_reducible first | exact HB.out | apply below_alloc | apply pw_below_drewN | apply below_drew1) | exact HB.out)))); (case aL => have := HLM.out; omega); intro v26 w8 ho hb hg hat)
        have hMr : some b ≠ u3.ownBlock := fun e => (HO.out.1 b e.symm).1 rfl
        have nM := Aside0.mk (HM.out.kept hg hMr)
        have nD := Aside0.mk (blk_grown DC.out hg (Kd.R_ne HO.out DC.out (by decide)))
        have nX := Aside0.mk (blk_grown BX.out hg (Kd.R_ne HO.out BX.out (by decide)))
        have nK := Aside0.mk (Kd.R_after (ok := (fun k_ => k_ ≠ b)) HK.out hg hat)
        have nO := Aside0.mk ho
        have nB := Aside0.mk hb
        have HH2 := Aside0.mk (show firstGo l0_0 ks (ks.length - (q + 1)) (S ++ [x]) = some r by rw [HX.out]; exact HH.out)
        clear HM DC BX HK HO HB ho hb hg hat hMr
        go_roundg (gk - 1)
        case measure => have := HG.out; omega
        case rel => exact ⟨q + 1, S ++ [x], HH2, ⟨by omega⟩, ⟨by have := HG.out; omega⟩, by have h1 := HZ.out; have h2 := HKL.out; have h3 : wrap64 (z + 1) = ((q + 1 : Nat) : Int) := (by unfold wrap64; omega); rw [h3], ⟨by rw [List.length_append, HSL.out]; rfl⟩, nM, nD, nX, nK, nO, nB⟩
      · rw [if_neg ci] at H
        cases H
    · have c1 : decide (z < (ks.length : Int)) = false := decide_eq_false (by omega)
      have hq0 : ks.length - q = 0 := by omega
      have H := HF.out
      rw [hq0, firstGo] at H
      obtain rfl := Option.some.inj H
      clear hz H
      go_wp2
      go_ret
      exact ⟨_, rfl, Kd.R_mono HO.out (fun _ _ => trivial), HB.out⟩
end Go.Proofs.YteakjjimkagmkaaGreatDoor.G
namespace Go.Proofs.YteakjjimkagmkaaGreatDoor.G
open Go.RowKit Go.Proofs.YteakjjimkagmkaaGreatDoorW.PrintWords Go.Proofs.YteakjjimkagmkaaGreatDoorW.PrintLast Go.Proofs.YteakjjimkagmkaaGreatDoorW.PrintMore
attribute [local go_sem] max2_int min2_int max_two min_two max_three min_three max_four min_four   -- for this text's walks alone
/-! ### impl_FirstInsertion: function 6 -/
def impl_FirstInsertion.f (k : Nat) (l0_0 : List Int) : Option (List Int × Bool) := (impl_isTable.f k l0_0).bind fun t258 => (if t258 = true then ((impl_Table_first.f l0_0).bind fun t259 => (some (t259, true))) else (some (([] : List Int), false)))
theorem impl_FirstInsertion.mono : ∀ a0 k, LeO (impl_FirstInsertion.f k a0) (impl_FirstInsertion.f (k + 1) a0) := by
 intro a0 k
 unfold impl_FirstInsertion.f
 exact mo1_ impl_isTable.mono
set_option maxHeartbeats 8000000 in
set_option maxRecDepth 100000 in
theorem impl_FirstInsertion.calls (k : Nat) (A0_0 : Option Addr) (c0_0 : Nat) (l0_0 : List Int) (r1 : List Int) (r2 : Bool) (w : World) (hr0_0 : Kd.C (Kd.int .i64) w A0_0 l0_0.length l0_0) (hc0_0 : l0_0.length ≤ c0_0) (h : impl_FirstInsertion.f k l0_0 = some (r1, r2)) :
  Calls Tryz.prog 6 #[.agg #[.slice A0_0 l0_0.length c0_0]] w fun e w' => ∃ v0_ : Value, e = .returned (.tuple #[v0_, .bool r2]) ∧ Kd.R (Kd.int .i64) 3 w' w.heap.size (fun _ => True) v0_ r1 ∧ Below w.heap.size w w' := by
 have hu26 := Tryz.underlying26
 have HR0_0 := aS_ hr0_0
 have HC0_0 := aS_ hc0_0
 clear hr0_0 hc0_0
 have HB := aS_ (Below.refl w.heap.size w)
 have H : ((impl_isTable.f k l0_0).bind fun t258 => (if t258 = true then ((impl_Table_first.f l0_0).bind fun t259 => (some (t259, true))) else (some (([] : List Int), false)))) = some (r1, r2) := h
 clear h
 replace H := bs_ H; obtain ⟨t258, A2, H⟩ := H
 replace H := it_ H; rcases H with ⟨rfl, H⟩ | ⟨rfl, H⟩
 ·replace H := bs_ H; obtain ⟨t259, A4, H⟩ := H
  simp only [Option.some.injEq, Prod.mk.injEq] at H
  obtain ⟨rfl, rfl⟩ := H
  go_enter Tryz.func6, Tryz.ntmps6
  go_wp2_with (first | ((with_reducible refine gg_ ?_); refine bx_ 1 #[.slice A0_0 l0_0.length c0_0] 26 ?_; intro gb257 hg w5 hbox hb; have BK257 := aS_ (hbox); have GW257 := gE_ HB hg; have GE257 := gE_ HB hg; replace HB := bE_ HB hb; clear hb hbox hg; obtain ⟨hcz6_0, hfz6_0⟩ := c10_ BK257) | ((with_reducible refine gg_ ?_); refine gc_ 28 (some 5) Tryz.func28 #[.agg #[.slice A0_0 l0_0.length c0_0]] ?_; (with_reducible refine (impl_isTable.calls k _ _ l0_0 true _ ?side1 ?side2 A2.out).mono ?_); (case side1 => exact cB_ HR0_0 HB); (case side2 => exact HC0_0.out); rintro e w7 ⟨rfl, hb⟩; refine ⟨_, rfl, ?_⟩; replace BK257 := kO_ BK257 hb; replace HB := bE_ HB hb; (try clear hb); obtain ⟨hcz8_0, hfz8_0⟩ := c10_ BK257) | ((with_reducible refine gg_ ?_); refine gc_ 29 (some 8) Tryz.func29 #[.agg #[.slice A0_0 l0_0.length c0_0]] ?_; (with_reducible refine (impl_Table_first.calls _ _ l0_0 t259 _ ?side1 ?side2 A4.out).mono ?_); (case side1 => exact cB_ HR0_0 HB); (case side2 => exact HC0_0.out); rintro e w9 ⟨v260, rfl, ho0, hb⟩; refine ⟨_, rfl, ?_⟩; have HO261 := aS_ (Kd.R_lower ho0 (below_size (bb_ HB))); replace BK257 := kO_ BK257 hb; replace HB := bE_ HB hb; (try clear hb); (try clear ho0)))
  go_ret2
  exact ⟨_, by first | rfl | (simp [errW_none, errW_some] <;> rfl) | (simp [*, errW_none, errW_some] <;> rfl), rr_ HO261, bb_ HB⟩
 simp only [Option.some.injEq, Prod.mk.injEq] at H
 obtain ⟨rfl, rfl⟩ := H
 go_enter Tryz.func6, Tryz.ntmps6
 go_wp2_with (first | ((with_reducible refine gg_ ?_); refine bx_ 1 #[.slice A0_0 l0_0.length c0_0] 26 ?_; intro gb257 hg w10 hbox hb; have BK257 := aS_ (hbox); have GW257 := gE_ HB hg; have GE257 := gE_ HB hg; replace HB := bE_ HB hb; clear hb hbox hg; obtain ⟨hcz11_0, hfz11_0⟩ := c10_ BK257) | ((with_reducible refine gg_ ?_); refine gc_ 28 (some 5) Tryz.func28 #[.agg #[.slice A0_0 l0_0.length c0_0]] ?_; (with_reducible refine (impl_isTable.calls k _ _ l0_0 false _ ?side1 ?side2 A2.out).mono ?_); (case side1 => exact cB_ HR0_0 HB); (case side2 => exact HC0_0.out); rintro e w12 ⟨rfl, hb⟩; refine ⟨_, rfl, ?_⟩; replace BK257 := kO_ BK257 hb; replace HB := bE_ HB hb; (try clear hb)))
 go_ret2
 exact ⟨_, by first | rfl | (simp [errW_none, errW_some] <;> rfl) | (simp [*, errW_none, errW_some] <;> rfl), by first | exact Kd.R_nil _ _ _ _ _ | exact Kd.N_nil _ _ _ _ _ | exact Kd.V_nil _ _ _ _ _ | exact Kd.Q_nil _ _ _ _ _ | exact Kd.S_nil _ _ _ _ _, bb_ HB⟩
/-! ### spec_prGood: function 30 -/
mutual
def spec_prGood.j0 : Nat → Int → Bool → List Int → Option (Bool)
 | 0, _, _, _ => none
 | k + 1, x3, x24, x263000 => if x24 = true then (some false) else (spec_prGood.l0 k x3 x263000 (x263000.length : Int) 0 x263000)
def spec_prGood.l0 : Nat → Int → List Int → Int → Int → List Int → Option (Bool)
 | 0, _, _, _, _, _ => none
 | k + 1, x3, x26, x27, x28, x263000 => if x28 < x27 then (if 0 ≤ x28 then (if x28 < (x26.length : Int) then (if (rd x26 x28) = (-1) then (spec_prGood.l0 k x3 x26 x27 (wrap64 (x28 + 1)) x263000) else (if x28 ≤ (x263000.length : Int) then ((spec_l1Has.f k (x263000.take (x28 : Int).toNat) (rd x26 x28)).bind fun t268 => (if t268 = true then (some false) else ((spec_prCost.f (rd x26 x28) x28 x3).bind fun t269 => (spec_prGood.l1 k x3 x28 t269 x26 x27 x28 x263000)))) else (none))) else (none)) else (none)) else (some true)
def spec_prGood.l1 : Nat → Int → Int → Int → List Int → Int → Int → List Int → Option (Bool)
 | 0, _, _, _, _, _, _, _ => none
 | k + 1, x3, x4, x6, x26, x27, x28, x263000 => if x6 > 0 then (if x3 = 0 then (none) else (if 0 ≤ (Int.tmod (wrap64 ((wrap64 (x4 - x6)) + x3)) x3) then (if (Int.tmod (wrap64 ((wrap64 (x4 - x6)) + x3)) x3) < (x263000.length : Int) then (if (rd x263000 (Int.tmod (wrap64 ((wrap64 (x4 - x6)) + x3)) x3)) = (-1) then (some false) else (spec_prGood.l1 k x3 x4 (wrap64 (x6 - 1)) x26 x27 x28 x263000)) else (none)) else (none))) else (spec_prGood.l0 k x3 x26 x27 (wrap64 (x28 + 1)) x263000)
end
def spec_prGood.f (k : Nat) (l0_0 : List Int) : Option (Bool) := (spec_l1In.f (l0_0.length : Int) 2 12).bind fun t263 => (if t263 = true then ((spec_l1All.f k l0_0 (-1) 999).bind fun t264 => (if t264 = true then ((spec_l1Has.f k l0_0 (-1)).bind fun t265 => (spec_prGood.j0 k (l0_0.length : Int) (!t265) l0_0)) else (spec_prGood.j0 k (l0_0.length : Int) true l0_0))) else (spec_prGood.j0 k (l0_0.length : Int) true l0_0))
theorem spec_prGood.mono_l : ∀ k, (∀ y0 y1 y2, LeO (spec_prGood.j0 k y0 y1 y2) (spec_prGood.j0 (k + 1) y0 y1 y2)) ∧ (∀ y0 y1 y2 y3 y4, LeO (spec_prGood.l0 k y0 y1 y2 y3 y4) (spec_prGood.l0 (k + 1) y0 y1 y2 y3 y4)) ∧ (∀ y0 y1 y2 y3 y4 y5 y6, LeO (spec_prGood.l1 k y0 y1 y2 y3 y4 y5 y6) (spec_prGood.l1 (k + 1) y0 y1 y2 y3 y4 y5 y6))
 | 0 => ⟨fun _ _ _ r h => by simp [spec_prGood.j0] at h, fun _ _ _ _ _ r h => by simp [spec_prGood.l0] at h, fun _ _ _ _ _ _ _ r h => by simp [spec_prGood.l1] at h⟩
 | k + 1 => by
  obtain ⟨ih0, ih1, ih2⟩ := spec_prGood.mono_l k
  refine ⟨?_, ?_, ?_⟩
  ·intro y0 y1 y2
   unfold spec_prGood.j0
   exact mo5_ ih0 ih1 ih2 spec_l1All.mono spec_l1Has.mono
  ·intro y0 y1 y2 y3 y4
   unfold spec_prGood.l0
   exact mo5_ ih0 ih1 ih2 spec_l1All.mono spec_l1Has.mono
  intro y0 y1 y2 y3 y4 y5 y6
  unfold spec_prGood.l1
  exact mo5_ ih0 ih1 ih2 spec_l1All.mono spec_l1Has.mono
theorem spec_prGood.mono : ∀ a0 k, LeO (spec_prGood.f k a0) (spec_prGood.f (k + 1) a0) := by
 intro a0 k
 obtain ⟨ih0, ih1, ih2⟩ := spec_prGood.mono_l k
 unfold spec_prGood.f
 exact mo5_ ih0 ih1 ih2 spec_l1All.mono spec_l1Has.mono
set_option maxHeartbeats 8000000 in
set_option maxRecDepth 100000 in
theorem spec_prGood.calls (k : Nat) (A0_0 : Option Addr) (c0_0 : Nat) (l0_0 : List Int) (r : Bool) (w : World) (hr0_0 : Kd.C (Kd.int .i64) w A0_0 l0_0.length l0_0) (hc0_0 : l0_0.length ≤ c0_0) (h : spec_prGood.f k l0_0 = some r) :
  Calls Tryz.prog 30 #[.agg #[.slice A0_0 l0_0.length c0_0]] w fun e w' => e = .returned (.bool r) ∧ Below w.heap.size w w' := by
 have hu26 := Tryz.underlying26
 have HR0_0 := aS_ hr0_0
 have HC0_0 := aS_ hc0_0
 clear hr0_0 hc0_0
 have HB := aS_ (Below.refl w.heap.size w)
 have H : ((spec_l1In.f (l0_0.length : Int) 2 12).bind fun t263 => (if t263 = true then ((spec_l1All.f k l0_0 (-1) 999).bind fun t264 => (if t264 = true then ((spec_l1Has.f k l0_0 (-1)).bind fun t265 => (spec_prGood.j0 k (l0_0.length : Int) (!t265) l0_0)) else (spec_prGood.j0 k (l0_0.length : Int) true l0_0))) else (spec_prGood.j0 k (l0_0.length : Int) true l0_0))) = some r := h
 clear h
 have HC2 := aS_ H
 clear H
 go_enter Tryz.func30, Tryz.ntmps30
 go_upto_region 2 with (first | ((with_reducible refine gg_ ?_); refine bx_ 1 #[.slice A0_0 l0_0.length c0_0] 26 ?_; intro gb262 hg w3 hbox hb; have BK262 := aS_ (hbox); have GW262 := gE_ HB hg; have GE262 := gE_ HB hg; replace HB := bE_ HB hb; clear hb hbox hg; obtain ⟨hcz4_0, hfz4_0⟩ := c10_ BK262))
 repeat (go_quiet (first | ((with_reducible refine gg_ ?_); refine bx_ 1 #[.slice A0_0 l0_0.length c0_0] 26 ?_; intro gb262 hg w3 hbox hb; have BK262 := aS_ (hbox); have GW262 := gE_ HB hg; have GE262 := gE_ HB hg; replace HB := bE_ HB hb; clear hb hbox hg; obtain ⟨hcz4_0, hfz4_0⟩ := c10_ BK262)); go_upto_region 2 with (first | ((with_reducible refine gg_ ?_); refine bx_ 1 #[.slice A0_0 l0_0.length c0_0] 26 ?_; intro gb262 hg w3 hbox hb; have BK262 := aS_ (hbox); have GW262 := gE_ HB hg; have GE262 := gE_ HB hg; replace HB := bE_ HB hb; clear hb hbox hg; obtain ⟨hcz4_0, hfz4_0⟩ := c10_ BK262)))
 (try simp only [Act.put, List.setIfInBounds_toArray, List.set_cons_zero, List.set_cons_succ])
 go_cut [24] (fun v24 wc => ∃ (kq : Nat) (x24_1 : Bool), v24 = .bool x24_1 ∧ Aside0 (spec_prGood.j0 kq (l0_0.length : Int) x24_1 l0_0 = some r) ∧ Aside0 (kq ≤ k) ∧ Aside0 (wc.heap[gb262]? = some (.cells #[(.slice A0_0 l0_0.length c0_0)] 26 (0, 0))) ∧ Aside0 (Below w.heap.size w wc))
 case first =>
  have H := HC2.out
  clear HC2
  replace H := bs_ H; obtain ⟨t263, A5, H⟩ := H
  replace H := it_ H; rcases H with ⟨rfl, H⟩ | ⟨rfl, H⟩
  ·replace H := bs_ H; obtain ⟨t264, A7, H⟩ := H
   replace H := it_ H; rcases H with ⟨rfl, H⟩ | ⟨rfl, H⟩
   ·replace H := bs_ H; obtain ⟨t265, A9, H⟩ := H
    have H' := aS_ H
    clear H
    go_wp2_with (first | (go_at_call 40; (with_reducible refine (spec_l1In.calls (l0_0.length : Int) 2 12 true _ A5.out).mono ?_); rintro e w' ⟨rfl, ⟨nd, rfl⟩⟩; (try exact dR_); obtain ⟨hcz10_0, hfz10_0⟩ := c10_ BK262) | (go_at_call 66; (with_reducible refine (spec_l1All.calls k _ _ l0_0 (-1) 999 true _ ?side1 ?side2 A7.out).mono ?_); (case side1 => exact cD_ HR0_0 HB); (case side2 => exact HC0_0.out); rintro e w' ⟨rfl, ⟨nd, rfl⟩⟩; (try exact dR_)) | (go_at_call 67; (with_reducible refine (spec_l1Has.calls k _ _ l0_0 (-1) t265 _ ?side1 ?side2 A9.out).mono ?_); (case side1 => exact cD_ HR0_0 HB); (case side2 => exact HC0_0.out); rintro e w' ⟨rfl, ⟨nd, rfl⟩⟩; (try exact dR_)))
    repeat (go_quiet (first | (go_at_call 40; (with_reducible refine (spec_l1In.calls (l0_0.length : Int) 2 12 true _ A5.out).mono ?_); rintro e w' ⟨rfl, ⟨nd, rfl⟩⟩; (try exact dR_); obtain ⟨hcz10_0, hfz10_0⟩ := c10_ BK262) | (go_at_call 66; (with_reducible refine (spec_l1All.calls k _ _ l0_0 (-1) 999 true _ ?side1 ?side2 A7.out).mono ?_); (case side1 => exact cD_ HR0_0 HB); (case side2 => exact HC0_0.out); rintro e w' ⟨rfl, ⟨nd, rfl⟩⟩; (try exact dR_)) | (go_at_call 67; (with_reducible refine (spec_l1Has.calls k _ _ l0_0 (-1) t265 _ ?side1 ?side2 A9.out).mono ?_); (case side1 => exact cD_ HR0_0 HB); (case side2 => exact HC0_0.out); rintro e w' ⟨rfl, ⟨nd, rfl⟩⟩; (try exact dR_))); try go_wp2_with (first | (go_at_call 40; (with_reducible refine (spec_l1In.calls (l0_0.length : Int) 2 12 true _ A5.out).mono ?_); rintro e w' ⟨rfl, ⟨nd, rfl⟩⟩; (try exact dR_); obtain ⟨hcz10_0, hfz10_0⟩ := c10_ BK262) | (go_at_call 66; (with_reducible refine (spec_l1All.calls k _ _ l0_0 (-1) 999 true _ ?side1 ?side2 A7.out).mono ?_); (case side1 => exact cD_ HR0_0 HB); (case side2 => exact HC0_0.out); rintro e w' ⟨rfl, ⟨nd, rfl⟩⟩; (try exact dR_)) | (go_at_call 67; (with_reducible refine (spec_l1Has.calls k _ _ l0_0 (-1) t265 _ ?side1 ?side2 A9.out).mono ?_); (case side1 => exact cD_ HR0_0 HB); (case side2 => exact HC0_0.out); rintro e w' ⟨rfl, ⟨nd, rfl⟩⟩; (try exact dR_))))
    go_meet
    case rel => exact ⟨_, (!t265), sR_, H', ⟨by first | omega | exact Nat.le_refl _⟩, ⟨kk_ BK262⟩, ⟨bb_ HB⟩⟩
   have H' := aS_ H
   clear H
   go_wp2_with (first | (go_at_call 40; (with_reducible refine (spec_l1In.calls (l0_0.length : Int) 2 12 true _ A5.out).mono ?_); rintro e w' ⟨rfl, ⟨nd, rfl⟩⟩; (try exact dR_); obtain ⟨hcz11_0, hfz11_0⟩ := c10_ BK262) | (go_at_call 66; (with_reducible refine (spec_l1All.calls k _ _ l0_0 (-1) 999 false _ ?side1 ?side2 A7.out).mono ?_); (case side1 => exact cD_ HR0_0 HB); (case side2 => exact HC0_0.out); rintro e w' ⟨rfl, ⟨nd, rfl⟩⟩; (try exact dR_)))
   repeat (go_quiet (first | (go_at_call 40; (with_reducible refine (spec_l1In.calls (l0_0.length : Int) 2 12 true _ A5.out).mono ?_); rintro e w' ⟨rfl, ⟨nd, rfl⟩⟩; (try exact dR_); obtain ⟨hcz11_0, hfz11_0⟩ := c10_ BK262) | (go_at_call 66; (with_reducible refine (spec_l1All.calls k _ _ l0_0 (-1) 999 false _ ?side1 ?side2 A7.out).mono ?_); (case side1 => exact cD_ HR0_0 HB); (case side2 => exact HC0_0.out); rintro e w' ⟨rfl, ⟨nd, rfl⟩⟩; (try exact dR_))); try go_wp2_with (first | (go_at_call 40; (with_reducible refine (spec_l1In.calls (l0_0.length : Int) 2 12 true _ A5.out).mono ?_); rintro e w' ⟨rfl, ⟨nd, rfl⟩⟩; (try exact dR_); obtain ⟨hcz11_0, hfz11_0⟩ := c10_ BK262) | (go_at_call 66; (with_reducible refine (spec_l1All.calls k _ _ l0_0 (-1) 999 false _ ?side1 ?side2 A7.out).mono ?_); (case side1 => exact cD_ HR0_0 HB); (case side2 => exact HC0_0.out); rintro e w' ⟨rfl, ⟨nd, rfl⟩⟩; (try exact dR_))))
   go_meet
   case rel => exact ⟨_, (true), sR_, H', ⟨by first | omega | exact Nat.le_refl _⟩, ⟨kk_ BK262⟩, ⟨bb_ HB⟩⟩
  have H' := aS_ H
  clear H
  go_wp2_with (first | (go_at_call 40; (with_reducible refine (spec_l1In.calls (l0_0.length : Int) 2 12 false _ A5.out).mono ?_); rintro e w' ⟨rfl, ⟨nd, rfl⟩⟩; (try exact dR_)))
  repeat (go_quiet (first | (go_at_call 40; (with_reducible refine (spec_l1In.calls (l0_0.length : Int) 2 12 false _ A5.out).mono ?_); rintro e w' ⟨rfl, ⟨nd, rfl⟩⟩; (try exact dR_))); try go_wp2_with (first | (go_at_call 40; (with_reducible refine (spec_l1In.calls (l0_0.length : Int) 2 12 false _ A5.out).mono ?_); rintro e w' ⟨rfl, ⟨nd, rfl⟩⟩; (try exact dR_))))
  go_meet
  case rel => exact ⟨_, (true), sR_, H', ⟨by first | omega | exact Nat.le_refl _⟩, ⟨kk_ BK262⟩, ⟨bb_ HB⟩⟩
 case rest =>
 clear HC2
 try clear hcz4_0
 try clear hfz4_0
 obtain ⟨kq, x24_1, rfl, HA, HJ1, BK262, HB⟩ := hcut
 cases kq with
 | zero => exact absurd HA.out (by simp [spec_prGood.j0])
 | succ kj1 =>
 have H := HA.out
 clear HA
 simp only [spec_prGood.j0] at H
 replace H := it_ H; rcases H with ⟨rfl, H⟩ | ⟨rfl, H⟩
 ·obtain rfl := Option.some.inj H
  go_wp2
  repeat (go_quiet (fail); try go_wp2)
  go_ret
  exact ⟨eR_, bb_ HB⟩
 have H' := aS_ H
 clear H
 obtain ⟨hcz13_0, hfz13_0⟩ := c10_ BK262
 go_wp2
 repeat (go_quiet (fail); try go_wp2)
 go_loopg [28] kj1 (fun kq v28 w' => ∃ (x28_2 : Int), v28 = .int .i64 x28_2 ∧ Aside0 (spec_prGood.l0 kq (l0_0.length : Int) l0_0 (l0_0.length : Int) x28_2 l0_0 = some r) ∧ Aside0 (kq ≤ kj1) ∧ Aside0 (w'.heap[gb262]? = some (.cells #[(.slice A0_0 l0_0.length c0_0)] 26 (0, 0))) ∧ Aside0 (Below w.heap.size w w'))
 case atStart => exact ⟨(0), sR_, H', ⟨Nat.le_refl _⟩, ⟨kk_ BK262⟩, ⟨bb_ HB⟩⟩
 case round =>
 clear H'
 try clear hcz13_0
 try clear hcz4_0
 try clear hfz13_0
 try clear hfz4_0
 obtain ⟨x28_2, rfl, HA, HK2, BK262, HB⟩ := hrel
 cases gk with
 | zero => exact absurd HA.out (by simp [spec_prGood.l0])
 | succ k2 =>
 have H := HA.out
 clear HA
 simp only [spec_prGood.l0] at H
 replace H := id_ H; rcases H with ⟨c14b0, H⟩ | ⟨c14b0, H⟩
 ·replace H := jd_ H; obtain ⟨c15b0, H⟩ := H
  replace H := jd_ H; obtain ⟨c16b0, H⟩ := H
  replace H := iq_ H; rcases H with ⟨c17b0, c17b1, H⟩ | ⟨c17b0, c17b1, c17, H⟩
  ·have H' := aS_ H
   clear H
   have p266 : 0 ≤ (x28_2 : Int) := of_decide_eq_true (by assumption)
   have q266 : x28_2 < (l0_0.length : Int) := of_decide_eq_true (by assumption)
   obtain ⟨ad266, e266, hx266_0⟩ := Kd.at_int HR0_0.out x28_2 p266 q266
   cases e266
   replace hx266_0 := (HB.out.cell (World.block_lt_of_cell? w _ hx266_0)).trans hx266_0
   replace p266 := eq_true p266
   replace q266 := eq_true q266
   go_wp2
   repeat (go_quiet (fail); try go_wp2)
   go_roundg k2
   case measure => have := HJ1.out; have := HK2.out; omega
   case rel => exact ⟨(wrap64 (x28_2 + 1)), sR_, H', ⟨by have := HJ1.out; have := HK2.out; omega⟩, ⟨kk_ BK262⟩, ⟨bb_ HB⟩⟩
  have c18b0 := eq_true (of_decide_eq_true (by assumption) : 0 ≤ x28_2)
  replace H := je_ H; obtain ⟨c19b0, c19b1, H⟩ := H
  replace H := bs_ H; obtain ⟨t268, A20, H⟩ := H
  replace H := it_ H; rcases H with ⟨rfl, H⟩ | ⟨rfl, H⟩
  ·obtain rfl := Option.some.inj H
   have p266 : 0 ≤ (x28_2 : Int) := of_decide_eq_true (by assumption)
   have q266 : x28_2 < (l0_0.length : Int) := of_decide_eq_true (by assumption)
   obtain ⟨ad266, e266, hx266_0⟩ := Kd.at_int HR0_0.out x28_2 p266 q266
   cases e266
   replace hx266_0 := (HB.out.cell (World.block_lt_of_cell? w _ hx266_0)).trans hx266_0
   replace p266 := eq_true p266
   replace q266 := eq_true q266
   obtain ⟨hcz22_0, hfz22_0⟩ := c10_ BK262
   obtain ⟨i023, hi023, _, hsz23, _⟩ := info_parts info3
   obtain ⟨hcut23, hA23, hC23⟩ := print_take_of (P := Tryz.prog) (Value.int .i64) 0 24 3 .i64 Tryz.underlying24 hi023 hsz23 (some ad266) c0_0 l0_0 x28_2 (of_decide_eq_true (by assumption)) (of_decide_eq_true (by assumption)) HC0_0.out
   have HR267 := aS_ (Kd.C_of_reads (h1 := fun _ => rfl) (hA23 _ (Kd.reads_of_C HR0_0.out)))
   have HC267 := aS_ hC23
   clear hA23 hC23 hi023 hsz23
   go_wp2_with (first | (go_at_call 67; (refine' calls_args ?ha_ ((spec_l1Has.calls k2 _ _ (l0_0.take (x28_2 : Int).toNat) (rd l0_0 x28_2) true _ ?side1 ?side2 A20.out).mono ?_)); (case ha_ => first | rfl | (rw [List.length_take, Nat.min_eq_left (by have q_ : x28_2 ≤ (l0_0.length : Int) := of_decide_eq_true (by assumption); omega)]) | (rw [List.length_take, Nat.min_eq_left (by omega)])); (case side1 => exact cB_ HR267 HB); (case side2 => exact HC267.out); rintro e w' ⟨rfl, ⟨nd, rfl⟩⟩; (try exact dR_)))
   repeat (go_quiet (first | (go_at_call 67; (refine' calls_args ?ha_ ((spec_l1Has.calls k2 _ _ (l0_0.take (x28_2 : Int).toNat) (rd l0_0 x28_2) true _ ?side1 ?side2 A20.out).mono ?_)); (case ha_ => first | rfl | (rw [List.length_take, Nat.min_eq_left (by have q_ : x28_2 ≤ (l0_0.length : Int) := of_decide_eq_true (by assumption); omega)]) | (rw [List.length_take, Nat.min_eq_left (by omega)])); (case side1 => exact cB_ HR267 HB); (case side2 => exact HC267.out); rintro e w' ⟨rfl, ⟨nd, rfl⟩⟩; (try exact dR_))); try go_wp2_with (first | (go_at_call 67; (refine' calls_args ?ha_ ((spec_l1Has.calls k2 _ _ (l0_0.take (x28_2 : Int).toNat) (rd l0_0 x28_2) true _ ?side1 ?side2 A20.out).mono ?_)); (case ha_ => first | rfl | (rw [List.length_take, Nat.min_eq_left (by have q_ : x28_2 ≤ (l0_0.length : Int) := of_decide_eq_true (by assumption); omega)]) | (rw [List.length_take, Nat.min_eq_left (by omega)])); (case side1 => exact cB_ HR267 HB); (case side2 => exact HC267.out); rintro e w' ⟨rfl, ⟨nd, rfl⟩⟩; (try exact dR_))))
   go_ret
   exact ⟨eR_, bb_ HB⟩
  replace H := bs_ H; obtain ⟨t269, A24, H⟩ := H
  have H' := aS_ H
  clear H
  have p266 : 0 ≤ (x28_2 : Int) := of_decide_eq_true (by assumption)
  have q266 : x28_2 < (l0_0.length : Int) := of_decide_eq_true (by assumption)
  obtain ⟨ad266, e266, hx266_0⟩ := Kd.at_int HR0_0.out x28_2 p266 q266
  cases e266
  replace hx266_0 := (HB.out.cell (World.block_lt_of_cell? w _ hx266_0)).trans hx266_0
  replace p266 := eq_true p266
  replace q266 := eq_true q266
  obtain ⟨hcz25_0, hfz25_0⟩ := c10_ BK262
  obtain ⟨i026, hi026, _, hsz26, _⟩ := info_parts info3
  obtain ⟨hcut26, hA26, hC26⟩ := print_take_of (P := Tryz.prog) (Value.int .i64) 0 24 3 .i64 Tryz.underlying24 hi026 hsz26 (some ad266) c0_0 l0_0 x28_2 (of_decide_eq_true (by assumption)) (of_decide_eq_true (by assumption)) HC0_0.out
  have HR267 := aS_ (Kd.C_of_reads (h1 := fun _ => rfl) (hA26 _ (Kd.reads_of_C HR0_0.out)))
  have HC267 := aS_ hC26
  clear hA26 hC26 hi026 hsz26
  go_wp2_with (first | (go_at_call 67; (refine' calls_args ?ha_ ((spec_l1Has.calls k2 _ _ (l0_0.take (x28_2 : Int).toNat) (rd l0_0 x28_2) false _ ?side1 ?side2 A20.out).mono ?_)); (case ha_ => first | rfl | (rw [List.length_take, Nat.min_eq_left (by have q_ : x28_2 ≤ (l0_0.length : Int) := of_decide_eq_true (by assumption); omega)]) | (rw [List.length_take, Nat.min_eq_left (by omega)])); (case side1 => exact cB_ HR267 HB); (case side2 => exact HC267.out); rintro e w' ⟨rfl, ⟨nd, rfl⟩⟩; (try exact dR_)) | (go_at_call 68; (with_reducible refine (spec_prCost.calls (rd l0_0 x28_2) x28_2 (l0_0.length : Int) t269 _ A24.out).mono ?_); rintro e w' ⟨rfl, ⟨nd, rfl⟩⟩; (try exact dR_)))
  repeat (go_quiet (first | (go_at_call 67; (refine' calls_args ?ha_ ((spec_l1Has.calls k2 _ _ (l0_0.take (x28_2 : Int).toNat) (rd l0_0 x28_2) false _ ?side1 ?side2 A20.out).mono ?_)); (case ha_ => first | rfl | (rw [List.length_take, Nat.min_eq_left (by have q_ : x28_2 ≤ (l0_0.length : Int) := of_decide_eq_true (by assumption); omega)]) | (rw [List.length_take, Nat.min_eq_left (by omega)])); (case side1 => exact cB_ HR267 HB); (case side2 => exact HC267.out); rintro e w' ⟨rfl, ⟨nd, rfl⟩⟩; (try exact dR_)) | (go_at_call 68; (with_reducible refine (spec_prCost.calls (rd l0_0 x28_2) x28_2 (l0_0.length : Int) t269 _ A24.out).mono ?_); rintro e w' ⟨rfl, ⟨nd, rfl⟩⟩; (try exact dR_))); try go_wp2_with (first | (go_at_call 67; (refine' calls_args ?ha_ ((spec_l1Has.calls k2 _ _ (l0_0.take (x28_2 : Int).toNat) (rd l0_0 x28_2) false _ ?side1 ?side2 A20.out).mono ?_)); (case ha_ => first | rfl | (rw [List.length_take, Nat.min_eq_left (by have q_ : x28_2 ≤ (l0_0.length : Int) := of_decide_eq_true (by assumption); omega)]) | (rw [List.length_take, Nat.min_eq_left (by omega)])); (case side1 => exact cB_ HR267 HB); (case side2 => exact HC267.out); rintro e w' ⟨rfl, ⟨nd, rfl⟩⟩; (try exact dR_)) | (go_at_call 68; (with_reducible refine (spec_prCost.calls (rd l0_0 x28_2) x28_2 (l0_0.length : Int) t269 _ A24.out).mono ?_); rintro e w' ⟨rfl, ⟨nd, rfl⟩⟩; (try exact dR_))))
  go_loopg [6] k2 (fun kq v6 w' => ∃ (x6_3 : Int), v6 = .int .i64 x6_3 ∧ Aside0 (spec_prGood.l1 kq (l0_0.length : Int) x28_2 x6_3 l0_0 (l0_0.length : Int) x28_2 l0_0 = some r) ∧ Aside0 (kq ≤ k2) ∧ Aside0 (w'.heap[gb262]? = some (.cells #[(.slice (some ad266) l0_0.length c0_0)] 26 (0, 0))) ∧ Aside0 (Below w.heap.size w w'))
  case atStart => exact ⟨(t269), sR_, H', ⟨Nat.le_refl _⟩, ⟨kk_ BK262⟩, ⟨bb_ HB⟩⟩
  case round =>
  clear H'
  try clear c14b0
  try clear c15b0
  try clear c16b0
  try clear c17
  try clear c17b0
  try clear c17b1
  try clear c18b0
  try clear c19b0
  try clear c19b1
  try clear hcz13_0
  try clear hcz25_0
  try clear hcz4_0
  try clear hfz13_0
  try clear hfz25_0
  try clear hfz4_0
  try clear hx266_0
  try clear p266
  try clear q266
  obtain ⟨x6_3, rfl, HA, HK3, BK262, HB⟩ := hrel
  cases gk with
  | zero => exact absurd HA.out (by simp [spec_prGood.l1])
  | succ k3 =>
  have H := HA.out
  clear HA
  simp only [spec_prGood.l1] at H
  replace H := id_ H; rcases H with ⟨c27b0, H⟩ | ⟨c27b0, H⟩
  ·replace H := jn_ H; obtain ⟨c28, H⟩ := H
   have c28b0 : ((l0_0.length : Int) == 0) = false := beq_eq_false_iff_ne.mpr c28
   have c28b1 : ((l0_0.length : Int) != 0) = true := bne_iff_ne.mpr c28
   have c28b2 : ¬ (l0_0 = []) := fun h_ => c28 (by rw [h_]; rfl)
   obtain ⟨ji29, hji29⟩ : ∃ j_ : Int, (Int.tmod (wrap64 ((wrap64 (x28_2 - x6_3)) + (l0_0.length : Int))) (l0_0.length : Int)) = j_ := ⟨_, rfl⟩
   replace H : (if 0 ≤ (ji29) then (if (ji29) < (l0_0.length : Int) then (if (rd l0_0 (ji29)) = (-1) then (some false) else (spec_prGood.l1 k3 (l0_0.length : Int) x28_2 (wrap64 (x6_3 - 1)) l0_0 (l0_0.length : Int) x28_2 l0_0)) else (none)) else (none)) = some r := by first | (rw [hji29] at H; exact H) | (simp only [hji29] at H ⊢; exact H)
   replace H := jd_ H; obtain ⟨c30b0, H⟩ := H
   replace H := jd_ H; obtain ⟨c31b0, H⟩ := H
   replace H := iq_ H; rcases H with ⟨c32b0, c32b1, H⟩ | ⟨c32b0, c32b1, c32, H⟩
   ·obtain rfl := Option.some.inj H
    obtain ⟨hcz33_0, hfz33_0⟩ := c10_ BK262
    have p270 : 0 ≤ ((ji29) : Int) := of_decide_eq_true (by assumption)
    have q270 : (ji29) < (l0_0.length : Int) := of_decide_eq_true (by assumption)
    obtain ⟨ad270, e270, hx270_0⟩ := Kd.at_int HR0_0.out (ji29) p270 q270
    obtain rfl : ad266 = ad270 := (by injection e270)
    replace hx270_0 := (HB.out.cell (World.block_lt_of_cell? w _ hx270_0)).trans hx270_0
    replace p270 := eq_true p270
    replace q270 := eq_true q270
    go_wp2
    repeat (go_quiet (fail); try go_wp2)
    go_ret
    exact ⟨by first | rfl | (simp [errW_none, errW_some] <;> rfl) | (simp only [← hji29]; first | rfl | (simp [errW_none, errW_some] <;> rfl)) | (simp [*, errW_none, errW_some] <;> rfl), bb_ HB⟩
   have H' := aS_ H
   clear H
   obtain ⟨hcz34_0, hfz34_0⟩ := c10_ BK262
   have p270 : 0 ≤ ((ji29) : Int) := of_decide_eq_true (by assumption)
   have q270 : (ji29) < (l0_0.length : Int) := of_decide_eq_true (by assumption)
   obtain ⟨ad270, e270, hx270_0⟩ := Kd.at_int HR0_0.out (ji29) p270 q270
   obtain rfl : ad266 = ad270 := (by injection e270)
   replace hx270_0 := (HB.out.cell (World.block_lt_of_cell? w _ hx270_0)).trans hx270_0
   replace p270 := eq_true p270
   replace q270 := eq_true q270
   go_wp2
   repeat (go_quiet (fail); try go_wp2)
   go_roundg k3
   case measure => have := HJ1.out; have := HK2.out; have := HK3.out; omega
   case rel => exact ⟨(wrap64 (x6_3 - 1)), sR_, H', ⟨by have := HJ1.out; have := HK2.out; have := HK3.out; omega⟩, ⟨kk_ BK262⟩, ⟨bb_ HB⟩⟩
  have H' := aS_ H
  clear H
  go_wp2
  repeat (go_quiet (fail); try go_wp2)
  go_roundg k3
  case measure => have := HJ1.out; have := HK2.out; have := HK3.out; omega
  case rel => exact ⟨(wrap64 (x28_2 + 1)), sR_, H', ⟨by have := HJ1.out; have := HK2.out; have := HK3.out; omega⟩, ⟨kk_ BK262⟩, ⟨bb_ HB⟩⟩
 obtain rfl := Option.some.inj H
 go_wp2
 repeat (go_quiet (fail); try go_wp2)
 go_ret
 exact ⟨eR_, bb_ HB⟩
/-! ### spec_l1Put: function 91 -/
def spec_l1Put.l0 : Nat → List Int → Int → Int → Option (List Int)
 | 0, _, _, _ => none
 | k + 1, x0, x1, x5 => if x5 < (x0.length : Int) then (if 0 ≤ x5 then (if (rd x0 x5) < x1 then (spec_l1Put.l0 k x0 x1 (wrap64 (x5 + 1))) else (if (rd x0 x5) = x1 then (some x0) else ((some (([] : List Int) : List Int)).bind fun y273 => (if x5 ≤ (x0.length : Int) then ((some (x0.take (x5 : Int).toNat : List Int)).bind fun y276 => (if y273.length + y276.length < 17592186044416 then ((some (y273 ++ y276 : List Int)).bind fun y280 => (if y280.length < 17592186044416 then ((some (y280 ++ [x1] : List Int)).bind fun y283 => ((some (x0.drop (x5 : Int).toNat : List Int)).bind fun y286 => (if y283.length + y286.length < 17592186044416 then (some (y283 ++ y286)) else (none)))) else (none))) else (none))) else (none))))) else (none)) else ((some (([] : List Int) : List Int)).bind fun y293 => (if 0 ≤ x5 then (if x5 ≤ (x0.length : Int) then ((some (x0.take (x5 : Int).toNat : List Int)).bind fun y296 => (if y293.length + y296.length < 17592186044416 then ((some (y293 ++ y296 : List Int)).bind fun y300 => (if y300.length < 17592186044416 then ((some (y300 ++ [x1] : List Int)).bind fun y303 => ((some (x0.drop (x5 : Int).toNat : List Int)).bind fun y306 => (if y303.length + y306.length < 17592186044416 then (some (y303 ++ y306)) else (none)))) else (none))) else (none))) else (none)) else (none)))
def spec_l1Put.f (k : Nat) (l0 : List Int) (a1 : Int) : Option (List Int) := spec_l1Put.l0 k l0 a1 0
theorem spec_l1Put.mono_l : ∀ k, (∀ y0 y1 y2, LeO (spec_l1Put.l0 k y0 y1 y2) (spec_l1Put.l0 (k + 1) y0 y1 y2))
 | 0 => fun _ _ _ r h => by simp [spec_l1Put.l0] at h
 | k + 1 => by
  have ih0 := spec_l1Put.mono_l k
  intro y0 y1 y2
  unfold spec_l1Put.l0
  exact mo1_ ih0
theorem spec_l1Put.mono : ∀ a0 a1 k, LeO (spec_l1Put.f k a0 a1) (spec_l1Put.f (k + 1) a0 a1) := by
 intro a0 a1 k
 have ih0 := spec_l1Put.mono_l k
 unfold spec_l1Put.f
 exact mo1_ ih0
set_option maxHeartbeats 8000000 in
set_option maxRecDepth 100000 in
theorem spec_l1Put.calls (k : Nat) (P0_ : Nat → Prop) (u9000_ : Value) (l0 : List Int) (a1 : Int) (r : List Int) (w0 w : World) (hB : Below w0.heap.size w0 w) (ho0 : Kd.R (Kd.int .i64) 3 w w0.heap.size P0_ u9000_ l0) (h : spec_l1Put.f k l0 a1 = some r) :
  Calls Tryz.prog 91 #[u9000_, .int .i64 a1] w fun e w' => ∃ v0_ : Value, e = .returned (v0_) ∧ Kd.R (Kd.int .i64) 3 w' w0.heap.size (fun k_ => (P0_ k_ ∨ w.heap.size ≤ k_)) v0_ r ∧ Below w0.heap.size w0 w' ∧ Kept w w' (fun k_ => P0_ k_) := by
 have HO0 := aS_ (show Kd.R (Kd.int .i64) 3 w w0.heap.size (fun k_ => (P0_ k_ ∨ w.heap.size ≤ k_)) u9000_ l0 from Kd.R_mono ho0 (fun k_ hk => (.inl hk)))
 have HK := aS_ (Kept.refl w (fun k_ => P0_ k_))
 have HW0 := aS_ hB.size
 have HB := aS_ hB
 clear hB
 have H : (spec_l1Put.l0 k l0 a1 0) = some r := h
 clear h
 have H' := aS_ H
 clear H
 go_enter Tryz.func91, Tryz.ntmps91
 go_wp2
 go_loopg [5] k (fun kq v5 w' => ∃ (x5_1 : Int), v5 = .int .i64 x5_1 ∧ Aside0 (spec_l1Put.l0 kq l0 a1 x5_1 = some r) ∧ Aside0 (kq ≤ k) ∧ Aside0 (Kd.R (Kd.int .i64) 3 w' w0.heap.size (fun k_ => (P0_ k_ ∨ w.heap.size ≤ k_)) u9000_ l0) ∧ Aside0 (Kept w w' (fun k_ => P0_ k_)) ∧ Aside0 (Below w0.heap.size w0 w'))
 case atStart => exact ⟨(0), sR_, H', ⟨Nat.le_refl _⟩, ⟨rr_ HO0⟩, ⟨by repeat (first | (with_reducible first | exact HK.out | apply Kept.alloc | apply Kept.drewN | apply Kept.drew) | exact HK.out)⟩, ⟨bb_ HB⟩⟩
 case round =>
 clear H'
 obtain ⟨x5_1, rfl, HA, HK1, HO_0, HK, HB⟩ := hrel
 cases gk with
 | zero => exact absurd HA.out (by simp [spec_l1Put.l0])
 | succ k1 =>
 have H := HA.out
 clear HA
 simp only [spec_l1Put.l0] at H
 replace H := id_ H; rcases H with ⟨c3b0, H⟩ | ⟨c3b0, H⟩
 ·replace H := jd_ H; obtain ⟨c4b0, H⟩ := H
  replace H := id_ H; rcases H with ⟨c5b0, H⟩ | ⟨c5b0, H⟩
  ·have H' := aS_ H
   clear H
   obtain ⟨Ao6, co6, eo6⟩ := Kd.R_slice HO_0.out
   subst eo6
   have p271 : 0 ≤ (x5_1 : Int) := of_decide_eq_true (by assumption)
   have q271 : x5_1 < (l0.length : Int) := of_decide_eq_true (by assumption)
   obtain ⟨ad271, e271, hx271_0⟩ := Kd.at_int (Kd.R_reads' HO_0.out).2.2 x5_1 p271 q271
   cases e271
   replace p271 := eq_true p271
   replace q271 := eq_true q271
   go_wp2
   go_roundg k1
   case measure => have := HK1.out; omega
   case rel => exact ⟨(wrap64 (x5_1 + 1)), sR_, H', ⟨by have := HK1.out; omega⟩, ⟨rr_ HO_0⟩, ⟨by repeat (first | (with_reducible first | exact HK.out | apply Kept.alloc | apply Kept.drewN | apply Kept.drew) | exact HK.out)⟩, ⟨bb_ HB⟩⟩
  replace H := iq_ H; rcases H with ⟨c7b0, c7b1, H⟩ | ⟨c7b0, c7b1, c7, H⟩
  ·obtain rfl := Option.some.inj H
   obtain ⟨Ao8, co8, eo8⟩ := Kd.R_slice HO_0.out
   subst eo8
   have p271 : 0 ≤ (x5_1 : Int) := of_decide_eq_true (by assumption)
   have q271 : x5_1 < (l0.length : Int) := of_decide_eq_true (by assumption)
   obtain ⟨ad271, e271, hx271_0⟩ := Kd.at_int (Kd.R_reads' HO_0.out).2.2 x5_1 p271 q271
   cases e271
   replace p271 := eq_true p271
   replace q271 := eq_true q271
   have p272 : 0 ≤ (x5_1 : Int) := of_decide_eq_true (by assumption)
   have q272 : x5_1 < (l0.length : Int) := of_decide_eq_true (by assumption)
   obtain ⟨ad272, e272, hx272_0⟩ := Kd.at_int (Kd.R_reads' HO_0.out).2.2 x5_1 p272 q272
   obtain rfl : ad271 = ad272 := (by injection e272)
   replace p272 := eq_true p272
   replace q272 := eq_true q272
   go_wp2
   go_ret
   exact ⟨_, by first | rfl | (simp [errW_none, errW_some] <;> rfl) | (simp [*, errW_none, errW_some] <;> rfl), rr_ HO_0, bb_ HB, by repeat (first | (with_reducible first | exact HK.out | apply Kept.alloc | apply Kept.drewN | apply Kept.drew) | exact HK.out)⟩
  obtain ⟨y273, hy273⟩ : ∃ y_ : List Int, y_ = (([] : List Int)) := ⟨_, rfl⟩
  replace H : (if x5_1 ≤ (l0.length : Int) then ((some (l0.take (x5_1 : Int).toNat : List Int)).bind fun y276 => (if y273.length + y276.length < 17592186044416 then ((some (y273 ++ y276 : List Int)).bind fun y280 => (if y280.length < 17592186044416 then ((some (y280 ++ [a1] : List Int)).bind fun y283 => ((some (l0.drop (x5_1 : Int).toNat : List Int)).bind fun y286 => (if y283.length + y286.length < 17592186044416 then (some (y283 ++ y286)) else (none)))) else (none))) else (none))) else (none)) = some r := yH_ hy273 H
  have Ny273 := aS_ hy273
  clear hy273
  have c9b0 := eq_true (of_decide_eq_true (by assumption) : 0 ≤ x5_1)
  replace H := je_ H; obtain ⟨c10b0, c10b1, H⟩ := H
  obtain ⟨y276, hy276⟩ : ∃ y_ : List Int, y_ = (l0.take (x5_1 : Int).toNat) := ⟨_, rfl⟩
  replace H : (if y273.length + y276.length < 17592186044416 then ((some (y273 ++ y276 : List Int)).bind fun y280 => (if y280.length < 17592186044416 then ((some (y280 ++ [a1] : List Int)).bind fun y283 => ((some (l0.drop (x5_1 : Int).toNat : List Int)).bind fun y286 => (if y283.length + y286.length < 17592186044416 then (some (y283 ++ y286)) else (none)))) else (none))) else (none)) = some r := yH_ hy276 H
  have Ny276 := aS_ hy276
  clear hy276
  replace H := jp_ H; obtain ⟨c11, H⟩ := H
  have LMc11 := aS_ c11
  clear c11
  obtain ⟨y280, hy280⟩ : ∃ y_ : List Int, y_ = (y273 ++ y276) := ⟨_, rfl⟩
  replace H : (if y280.length < 17592186044416 then ((some (y280 ++ [a1] : List Int)).bind fun y283 => ((some (l0.drop (x5_1 : Int).toNat : List Int)).bind fun y286 => (if y283.length + y286.length < 17592186044416 then (some (y283 ++ y286)) else (none)))) else (none)) = some r := yH_ hy280 H
  have Ny280 := aS_ hy280
  clear hy280
  replace H := jp_ H; obtain ⟨c12, H⟩ := H
  have LMc12 := aS_ c12
  clear c12
  obtain ⟨y283, hy283⟩ : ∃ y_ : List Int, y_ = (y280 ++ [a1]) := ⟨_, rfl⟩
  replace H : ((some (l0.drop (x5_1 : Int).toNat : List Int)).bind fun y286 => (if y283.length + y286.length < 17592186044416 then (some (y283 ++ y286)) else (none))) = some r := yH_ hy283 H
  have Ny283 := aS_ hy283
  clear hy283
  have c13b0 := eq_true (of_decide_eq_true (by assumption) : 0 ≤ x5_1)
  have c14b0 := eq_true (of_decide_eq_true (by assumption) : x5_1 ≤ (l0.length : Int))
  obtain ⟨y286, hy286⟩ : ∃ y_ : List Int, y_ = (l0.drop (x5_1 : Int).toNat) := ⟨_, rfl⟩
  replace H : (if y283.length + y286.length < 17592186044416 then (some (y283 ++ y286)) else (none)) = some r := yH_ hy286 H
  have Ny286 := aS_ hy286
  clear hy286
  replace H := jp_ H; obtain ⟨c15, H⟩ := H
  have LMc15 := aS_ c15
  clear c15
  obtain ⟨y290, hy290⟩ : ∃ y_ : List Int, y_ = (y283 ++ y286) := ⟨_, rfl⟩
  replace H : (some y290) = some r := yH_ hy290 H
  have Ny290 := aS_ hy290
  clear hy290
  obtain rfl := Option.some.inj H
  obtain ⟨Ao16, co16, eo16⟩ := Kd.R_slice HO_0.out
  subst eo16
  have p271 : 0 ≤ (x5_1 : Int) := of_decide_eq_true (by assumption)
  have q271 : x5_1 < (l0.length : Int) := of_decide_eq_true (by assumption)
  obtain ⟨ad271, e271, hx271_0⟩ := Kd.at_int (Kd.R_reads' HO_0.out).2.2 x5_1 p271 q271
  cases e271
  replace p271 := eq_true p271
  replace q271 := eq_true q271
  have p272 : 0 ≤ (x5_1 : Int) := of_decide_eq_true (by assumption)
  have q272 : x5_1 < (l0.length : Int) := of_decide_eq_true (by assumption)
  obtain ⟨ad272, e272, hx272_0⟩ := Kd.at_int (Kd.R_reads' HO_0.out).2.2 x5_1 p272 q272
  obtain rfl : ad271 = ad272 := (by injection e272)
  replace p272 := eq_true p272
  replace q272 := eq_true q272
  go_wp2_with (first | ((with_reducible refine gate_dst (N := 34) rfl ?_); refine Kd.R_lit (Kd.int .i64) _ 3 ?hg (N := 34) ?hd (xs := ([] : List Int)) (inner := []) (ok := fun _ => True) (okp := fun _ => True) ?hr ?hp (fun _ hk => hk) trivial (Below.refl _ _) (Nat.le_refl _) (by simp) ?_; (case hd => rfl); (case hg => rfl); (case hr => first | (go_simp; done) | (go_simp; rfl)); (case hp => exact (Reps.none _ _)); intro v274 w17 ho18 hb hg_ hnew_; clear hg_ hnew_; (first | rw [← Ny273.out] at ho18 | (simp only [Int.reduceToNat] at ho18; rw [← Ny273.out] at ho18)); have HO275 := aS_ (Kd.R_lower (Kd.R_new' (Kd.R_newM (M := fun k_ => (P0_ k_ ∨ w.heap.size ≤ k_)) ho18 (by first | exact HK.out.1 | exact (show Kept w _ (fun k_ => P0_ k_) from by repeat (first | (with_reducible first | exact HK.out | apply Kept.alloc | apply Kept.drewN | apply Kept.drew) | exact HK.out)).1) (fun k_ h_ => .inr h_)) (Kd.R_lt (rr_ HO_0))) (below_size (bb_ HB))); replace HO_0 := aS_ (Kd.R_elder' (rr_ HO_0) (Kd.R_base ho18) hb); replace HK := aS_ (Kept.below (S := (fun k_ => P0_ k_)) (by repeat (first | (with_reducible first | exact HK.out | apply Kept.alloc | apply Kept.drewN | apply Kept.drew) | exact HK.out)) hb); replace HB := bE_ HB hb; clear hb ho18; have q19 : (x5_1 : Int) ≤ ((l0.length : Int) : Int) := of_decide_eq_true (by assumption); obtain ⟨i019, hi019, _, hsz19, _⟩ := info_parts info3; have hroom19 : l0.length ≤ co16 := (Kd.R_reads' HO_0.out).2.1; have hC19 : Kd.C (Kd.int .i64) _ (some ad271) l0.length l0 := (Kd.R_reads' HO_0.out).2.2; have hcut19 := cut_to (P := Tryz.prog) 24 3 .i64 Tryz.underlying24 hi019 (some ad271) l0.length co16 x5_1 (of_decide_eq_true (by assumption)) q19 hroom19; have hr19 := Kd.C_take (m := (x5_1 : Int).toNat) hC19 (by omega); have hy19 : y276.length = (x5_1 : Int).toNat := (by rw [Ny276.out, List.length_take]; omega); rw [← Ny276.out] at hr19; rw [← hy19] at hcut19; have HR279 := aS_ hr19; have HC279 := aS_ (show y276.length ≤ co16 from by omega); clear hr19 hC19 hroom19 hi019 hsz19; have KY19 := aS_ hy19; clear hy19; have KL19 := aS_ (show (x5_1 : Int).toNat ≤ l0.length from by omega); replace q19 := eq_true q19) | ((with_reducible refine gate_builtin (b := .append) (xs := #[.tmp 34, .tmp 37]) rfl ?_); at_builtin; refine Kd.R_append_rows (Kd.int .i64) (w0 := w0) w0.heap.size rfl (.tmp 34) (.tmp 37) 24 3 (.int .i64 0) 8 rfl Tryz.underlying24 info3 rfl (by decide) (by omega) v274 y273 y276 _ _ _ (fun k_ => (P0_ k_ ∨ w.heap.size ≤ k_) ∧ some k_ ≠ (.slice (some ad271) l0.length co16 : Value).ownBlock) (fun _ => False) rfl rfl ?aO ?aR (fun _ _ h => h) (fun _ h => h.elim) ?aF ?aB ?aS ?aL ?_; (case aR => repeat (first | exact (by repeat (first | (with_reducible exact HR279.out) | (with_reducible refine Kd.C_alloc ?_ _) | (with_reducible refine Kd.C_drewN ?_ _) | (with_reducible refine Kd.C_drew ?_) | exact HR279.out)) | (with_reducible refine Kd.C_alloc ?_ _) | (with_reducible refine Kd.C_drewN ?_ _) | (with_reducible refine Kd.C_drew ?_))); (case aB => exact (bb_ HB)); (case aF => exact (fun k_ hk => ⟨(.inr (Nat.le_trans (by first | exact HK.out.1 | exact (show Kept w _ (fun k_ => P0_ k_) from by repeat (first | (with_reducible first | exact HK.out | apply Kept.alloc | apply Kept.drewN | apply Kept.drew) | exact HK.out)).1) hk)), Kd.fresh' (Kd.R_lt (rr_ HO_0)) k_ hk⟩)); (case aO => exact (by (with_reducible repeat (first | apply rA_ | apply rN_ | apply rD_)); exact Kd.R_mono HO275.out (fun _ hk => ⟨hk.1.1, hk.2⟩))); (case aS => exact (below_size (bb_ HB))); (case aL => have := LMc11.out; omega); intro v281 w20 ho hb hg hat; rw [← Ny280.out] at ho; replace HB := aS_ (hb); replace HK := aS_ (Kept.of_grown (S := (fun k_ => P0_ k_)) hg (by repeat (first | (with_reducible first | exact HK.out | apply Kept.alloc | apply Kept.drewN | apply Kept.drew) | exact HK.out)) (fun k_ e_ => (HO275.out.1 k_ e_).1.1)); replace HR279 := aS_ ((show Kd.C (Kd.int .i64) w20 (some ad271) y276.length y276 from by rw [Ny276.out]; exact Kd.C_take (m := (x5_1 : Int).toNat) ((Kd.R_reads' (Kd.R_after (ok := (fun k_ => (P0_ k_ ∨ w.heap.size ≤ k_))) (rr_ HO_0) hg hat)).2.2) KL19.out)); replace HO_0 := aS_ (Kd.R_after (ok := (fun k_ => (P0_ k_ ∨ w.heap.size ≤ k_))) (rr_ HO_0) hg hat); have HO282 := aS_ (ho); clear HO275; clear ho hb hg hat) | ((with_reducible refine gate_builtin (b := .append) (xs := #[.tmp 39, .tmp 41]) rfl ?_); at_builtin; refine Kd.R_append (Kd.int .i64) (w0 := w0) w0.heap.size rfl (.tmp 39) (.tmp 41) 24 3 (.int .i64 0) 8 rfl Tryz.underlying24 info3 rfl (by decide) (by omega) v281 y280 a1 [.int .i64 a1] (fun k_ => (P0_ k_ ∨ w.heap.size ≤ k_) ∧ some k_ ≠ (.slice (some ad271) l0.length co16 : Value).ownBlock) (fun _ => False) rfl rfl ?aP (fun _ hk => hk.elim) ?aF ?aO ?aB ?aS ?aL ?_; (case aP => exact rfl); (case aB => exact (bb_ HB)); (case aF => exact (fun k_ hk => ⟨(.inr (Nat.le_trans (by first | exact HK.out.1 | exact (show Kept w _ (fun k_ => P0_ k_) from by repeat (first | (with_reducible first | exact HK.out | apply Kept.alloc | apply Kept.drewN | apply Kept.drew) | exact HK.out)).1) hk)), Kd.fresh' (Kd.R_lt (rr_ HO_0)) k_ hk⟩)); (case aO => exact (rr_ HO282)); (case aS => exact (below_size (bb_ HB))); (case aL => have := LMc12.out; omega); intro v284 w21 ho hb hg hat; rw [← Ny283.out] at ho; replace HB := aS_ (hb); replace HK := aS_ (Kept.of_grown (S := (fun k_ => P0_ k_)) hg (by repeat (first | (with_reducible first | exact HK.out | apply Kept.alloc | apply Kept.drewN | apply Kept.drew) | exact HK.out)) (fun k_ e_ => (HO282.out.1 k_ e_).1)); replace HR279 := aS_ ((show Kd.C (Kd.int .i64) w21 (some ad271) y276.length y276 from by rw [Ny276.out]; exact Kd.C_take (m := (x5_1 : Int).toNat) ((Kd.R_reads' (Kd.R_after (ok := (fun k_ => (P0_ k_ ∨ w.heap.size ≤ k_))) (rr_ HO_0) hg hat)).2.2) KL19.out)); replace HO_0 := aS_ (Kd.R_after (ok := (fun k_ => (P0_ k_ ∨ w.heap.size ≤ k_))) (rr_ HO_0) hg hat); have HO285 := aS_ (ho); clear HO282; clear ho hb hg hat; have q22 : (x5_1 : Int) ≤ ((l0.length : Int) : Int) := of_decide_eq_true (by assumption); obtain ⟨i022, hi022, _, hsz22, _⟩ := info_parts info3; have hroom22 : l0.length ≤ co16 := (Kd.R_reads' HO_0.out).2.1; have hC22 : Kd.C (Kd.int .i64) _ (some ad271) l0.length l0 := (Kd.R_reads' HO_0.out).2.2; have q022 : (0 : Int) ≤ (x5_1 : Int) := of_decide_eq_true (by assumption); have hcut22 := cut_from (P := Tryz.prog) 24 3 .i64 Tryz.underlying24 hi022 1 hsz22 (some ad271) l0.length co16 x5_1 q022 q22; have hr22 := Kd.C_drop (m := (x5_1 : Int).toNat) (c := co16) hC22 (by omega) hroom22; obtain ⟨A22, hA22⟩ : ∃ A1, A1 = (if co16 = (x5_1 : Int).toNat then (some ad271) else ((some ad271) : Option Addr).map (·.add ((x5_1 : Int).toNat * 1))) := ⟨_, rfl⟩; obtain ⟨c22, hc22⟩ : ∃ c1, c1 = co16 - (x5_1 : Int).toNat := ⟨_, rfl⟩; have hy22 : y286.length = l0.length - (x5_1 : Int).toNat := (by rw [Ny286.out, List.length_drop] <;> omega); rw [show (l0).drop (x5_1 : Int).toNat = y286 from Ny286.out.symm] at hr22; replace hr22 : Kd.C (Kd.int .i64) _ A22 y286.length y286 := (by rw [hA22]; exact hr22); rw [← hy22, ← hA22, ← hc22] at hcut22; have HR289 := aS_ hr22; have HC289 := aS_ (show y286.length ≤ c22 from by rw [hy22, hc22]; exact Nat.sub_le_sub_right hroom22 _); clear hr22 hC22 hroom22 hi022 hsz22 hc22; have KY22 := aS_ hy22; have KA22 := aS_ hA22; clear hy22 hA22; have KL22 := aS_ (show (x5_1 : Int).toNat ≤ l0.length from by omega); replace q22 := eq_true q22) | ((with_reducible refine gate_builtin (b := .append) (xs := #[.tmp 43, .tmp 46]) rfl ?_); at_builtin; refine Kd.R_append_rows (Kd.int .i64) (w0 := w0) w0.heap.size rfl (.tmp 43) (.tmp 46) 24 3 (.int .i64 0) 8 rfl Tryz.underlying24 info3 rfl (by decide) (by omega) v284 y283 y286 _ _ _ (fun k_ => (P0_ k_ ∨ w.heap.size ≤ k_) ∧ some k_ ≠ (.slice (some ad271) l0.length co16 : Value).ownBlock) (fun _ => False) rfl rfl ?aO ?aR (fun _ _ h => h) (fun _ h => h.elim) ?aF ?aB ?aS ?aL ?_; (case aR => repeat (first | exact (by repeat (first | (with_reducible exact HR289.out) | (with_reducible refine Kd.C_alloc ?_ _) | (with_reducible refine Kd.C_drewN ?_ _) | (with_reducible refine Kd.C_drew ?_) | exact HR289.out)) | (with_reducible refine Kd.C_alloc ?_ _) | (with_reducible refine Kd.C_drewN ?_ _) | (with_reducible refine Kd.C_drew ?_))); (case aB => exact (bb_ HB)); (case aF => exact (fun k_ hk => ⟨(.inr (Nat.le_trans (by first | exact HK.out.1 | exact (show Kept w _ (fun k_ => P0_ k_) from by repeat (first | (with_reducible first | exact HK.out | apply Kept.alloc | apply Kept.drewN | apply Kept.drew) | exact HK.out)).1) hk)), Kd.fresh' (Kd.R_lt (rr_ HO_0)) k_ hk⟩)); (case aO => exact (rr_ HO285)); (case aS => exact (below_size (bb_ HB))); (case aL => have := LMc15.out; omega); intro v291 w23 ho hb hg hat; rw [← Ny290.out] at ho; replace HB := aS_ (hb); replace HK := aS_ (Kept.of_grown (S := (fun k_ => P0_ k_)) hg (by repeat (first | (with_reducible first | exact HK.out | apply Kept.alloc | apply Kept.drewN | apply Kept.drew) | exact HK.out)) (fun k_ e_ => (HO285.out.1 k_ e_).1)); replace HR279 := aS_ ((show Kd.C (Kd.int .i64) w23 (some ad271) y276.length y276 from by rw [Ny276.out]; exact Kd.C_take (m := (x5_1 : Int).toNat) ((Kd.R_reads' (Kd.R_after (ok := (fun k_ => (P0_ k_ ∨ w.heap.size ≤ k_))) (rr_ HO_0) hg hat)).2.2) KL19.out)); replace HR289 := aS_ ((show Kd.C (Kd.int .i64) w23 A22 y286.length y286 from by rw [Ny286.out, KA22.out]; exact Kd.C_drop (m := (x5_1 : Int).toNat) (c := co16) ((Kd.R_reads' (Kd.R_after (ok := (fun k_ => (P0_ k_ ∨ w.heap.size ≤ k_))) (rr_ HO_0) hg hat)).2.2) KL22.out ((Kd.R_reads' (Kd.R_after (ok := (fun k_ => (P0_ k_ ∨ w.heap.size ≤ k_))) (rr_ HO_0) hg hat)).2.1))); replace HO_0 := aS_ (Kd.R_after (ok := (fun k_ => (P0_ k_ ∨ w.heap.size ≤ k_))) (rr_ HO_0) hg hat); have HO292 := aS_ (ho); clear HO285; clear ho hb hg hat))
  go_ret
  exact ⟨_, by first | rfl | (simp [errW_none, errW_some] <;> rfl) | (simp [*, errW_none, errW_some] <;> rfl), by (with_reducible repeat (first | apply rA_ | apply rN_ | apply rD_)); exact Kd.R_mono HO292.out (fun _ hk => hk.1), bb_ HB, by repeat (first | (with_reducible first | exact HK.out | apply Kept.alloc | apply Kept.drewN | apply Kept.drew) | exact HK.out)⟩
 obtain ⟨y293, hy293⟩ : ∃ y_ : List Int, y_ = (([] : List Int)) := ⟨_, rfl⟩
 replace H : (if 0 ≤ x5_1 then (if x5_1 ≤ (l0.length : Int) then ((some (l0.take (x5_1 : Int).toNat : List Int)).bind fun y296 => (if y293.length + y296.length < 17592186044416 then ((some (y293 ++ y296 : List Int)).bind fun y300 => (if y300.length < 17592186044416 then ((some (y300 ++ [a1] : List Int)).bind fun y303 => ((some (l0.drop (x5_1 : Int).toNat : List Int)).bind fun y306 => (if y303.length + y306.length < 17592186044416 then (some (y303 ++ y306)) else (none)))) else (none))) else (none))) else (none)) else (none)) = some r := yH_ hy293 H
 have Ny293 := aS_ hy293
 clear hy293
 replace H := je_ H; obtain ⟨c24b0, c24b1, H⟩ := H
 replace H := je_ H; obtain ⟨c25b0, c25b1, H⟩ := H
 obtain ⟨y296, hy296⟩ : ∃ y_ : List Int, y_ = (l0.take (x5_1 : Int).toNat) := ⟨_, rfl⟩
 replace H : (if y293.length + y296.length < 17592186044416 then ((some (y293 ++ y296 : List Int)).bind fun y300 => (if y300.length < 17592186044416 then ((some (y300 ++ [a1] : List Int)).bind fun y303 => ((some (l0.drop (x5_1 : Int).toNat : List Int)).bind fun y306 => (if y303.length + y306.length < 17592186044416 then (some (y303 ++ y306)) else (none)))) else (none))) else (none)) = some r := yH_ hy296 H
 have Ny296 := aS_ hy296
 clear hy296
 replace H := jp_ H; obtain ⟨c26, H⟩ := H
 have LMc26 := aS_ c26
 clear c26
 obtain ⟨y300, hy300⟩ : ∃ y_ : List Int, y_ = (y293 ++ y296) := ⟨_, rfl⟩
 replace H : (if y300.length < 17592186044416 then ((some (y300 ++ [a1] : List Int)).bind fun y303 => ((some (l0.drop (x5_1 : Int).toNat : List Int)).bind fun y306 => (if y303.length + y306.length < 17592186044416 then (some (y303 ++ y306)) else (none)))) else (none)) = some r := yH_ hy300 H
 have Ny300 := aS_ hy300
 clear hy300
 replace H := jp_ H; obtain ⟨c27, H⟩ := H
 have LMc27 := aS_ c27
 clear c27
 obtain ⟨y303, hy303⟩ : ∃ y_ : List Int, y_ = (y300 ++ [a1]) := ⟨_, rfl⟩
 replace H : ((some (l0.drop (x5_1 : Int).toNat : List Int)).bind fun y306 => (if y303.length + y306.length < 17592186044416 then (some (y303 ++ y306)) else (none))) = some r := yH_ hy303 H
 have Ny303 := aS_ hy303
 clear hy303
 have c28b0 := eq_true (of_decide_eq_true (by assumption) : 0 ≤ x5_1)
 have c29b0 := eq_true (of_decide_eq_true (by assumption) : x5_1 ≤ (l0.length : Int))
 obtain ⟨y306, hy306⟩ : ∃ y_ : List Int, y_ = (l0.drop (x5_1 : Int).toNat) := ⟨_, rfl⟩
 replace H : (if y303.length + y306.length < 17592186044416 then (some (y303 ++ y306)) else (none)) = some r := yH_ hy306 H
 have Ny306 := aS_ hy306
 clear hy306
 replace H := jp_ H; obtain ⟨c30, H⟩ := H
 have LMc30 := aS_ c30
 clear c30
 obtain ⟨y310, hy310⟩ : ∃ y_ : List Int, y_ = (y303 ++ y306) := ⟨_, rfl⟩
 replace H : (some y310) = some r := yH_ hy310 H
 have Ny310 := aS_ hy310
 clear hy310
 obtain rfl := Option.some.inj H
 obtain ⟨Ao31, co31, eo31⟩ := Kd.R_slice HO_0.out
 subst eo31
 go_wp2_with (first | ((with_reducible refine gate_dst (N := 34) rfl ?_); refine Kd.R_lit (Kd.int .i64) _ 3 ?hg (N := 34) ?hd (xs := ([] : List Int)) (inner := []) (ok := fun _ => True) (okp := fun _ => True) ?hr ?hp (fun _ hk => hk) trivial (Below.refl _ _) (Nat.le_refl _) (by simp) ?_; (case hd => rfl); (case hg => rfl); (case hr => first | (go_simp; done) | (go_simp; rfl)); (case hp => exact (Reps.none _ _)); intro v294 w32 ho33 hb hg_ hnew_; clear hg_ hnew_; (first | rw [← Ny293.out] at ho33 | (simp only [Int.reduceToNat] at ho33; rw [← Ny293.out] at ho33)); have HO295 := aS_ (Kd.R_lower (Kd.R_new' (Kd.R_newM (M := fun k_ => (P0_ k_ ∨ w.heap.size ≤ k_)) ho33 (by first | exact HK.out.1 | exact (show Kept w _ (fun k_ => P0_ k_) from by repeat (first | (with_reducible first | exact HK.out | apply Kept.alloc | apply Kept.drewN | apply Kept.drew) | exact HK.out)).1) (fun k_ h_ => .inr h_)) (Kd.R_lt (rr_ HO_0))) (below_size (bb_ HB))); replace HO_0 := aS_ (Kd.R_elder' (rr_ HO_0) (Kd.R_base ho33) hb); replace HK := aS_ (Kept.below (S := (fun k_ => P0_ k_)) (by repeat (first | (with_reducible first | exact HK.out | apply Kept.alloc | apply Kept.drewN | apply Kept.drew) | exact HK.out)) hb); replace HB := bE_ HB hb; clear hb ho33; have q34 : (x5_1 : Int) ≤ ((l0.length : Int) : Int) := of_decide_eq_true (by assumption); obtain ⟨i034, hi034, _, hsz34, _⟩ := info_parts info3; have hroom34 : l0.length ≤ co31 := (Kd.R_reads' HO_0.out).2.1; have hC34 : Kd.C (Kd.int .i64) _ Ao31 l0.length l0 := (Kd.R_reads' HO_0.out).2.2; have hcut34 := cut_to (P := Tryz.prog) 24 3 .i64 Tryz.underlying24 hi034 Ao31 l0.length co31 x5_1 (of_decide_eq_true (by assumption)) q34 hroom34; have hr34 := Kd.C_take (m := (x5_1 : Int).toNat) hC34 (by omega); have hy34 : y296.length = (x5_1 : Int).toNat := (by rw [Ny296.out, List.length_take]; omega); rw [← Ny296.out] at hr34; rw [← hy34] at hcut34; have HR299 := aS_ hr34; have HC299 := aS_ (show y296.length ≤ co31 from by omega); clear hr34 hC34 hroom34 hi034 hsz34; have KY34 := aS_ hy34; clear hy34; have KL34 := aS_ (show (x5_1 : Int).toNat ≤ l0.length from by omega); replace q34 := eq_true q34) | ((with_reducible refine gate_builtin (b := .append) (xs := #[.tmp 34, .tmp 37]) rfl ?_); at_builtin; refine Kd.R_append_rows (Kd.int .i64) (w0 := w0) w0.heap.size rfl (.tmp 34) (.tmp 37) 24 3 (.int .i64 0) 8 rfl Tryz.underlying24 info3 rfl (by decide) (by omega) v294 y293 y296 _ _ _ (fun k_ => (P0_ k_ ∨ w.heap.size ≤ k_) ∧ some k_ ≠ (.slice Ao31 l0.length co31 : Value).ownBlock) (fun _ => False) rfl rfl ?aO ?aR (fun _ _ h => h) (fun _ h => h.elim) ?aF ?aB ?aS ?aL ?_; (case aR => repeat (first | exact (by repeat (first | (with_reducible exact HR299.out) | (with_reducible refine Kd.C_alloc ?_ _) | (with_reducible refine Kd.C_drewN ?_ _) | (with_reducible refine Kd.C_drew ?_) | exact HR299.out)) | (with_reducible refine Kd.C_alloc ?_ _) | (with_reducible refine Kd.C_drewN ?_ _) | (with_reducible refine Kd.C_drew ?_))); (case aB => exact (bb_ HB)); (case aF => exact (fun k_ hk => ⟨(.inr (Nat.le_trans (by first | exact HK.out.1 | exact (show Kept w _ (fun k_ => P0_ k_) from by repeat (first | (with_reducible first | exact HK.out | apply Kept.alloc | apply Kept.drewN | apply Kept.drew) | exact HK.out)).1) hk)), Kd.fresh' (Kd.R_lt (rr_ HO_0)) k_ hk⟩)); (case aO => exact (by (with_reducible repeat (first | apply rA_ | apply rN_ | apply rD_)); exact Kd.R_mono HO295.out (fun _ hk => ⟨hk.1.1, hk.2⟩))); (case aS => exact (below_size (bb_ HB))); (case aL => have := LMc26.out; omega); intro v301 w35 ho hb hg hat; rw [← Ny300.out] at ho; replace HB := aS_ (hb); replace HK := aS_ (Kept.of_grown (S := (fun k_ => P0_ k_)) hg (by repeat (first | (with_reducible first | exact HK.out | apply Kept.alloc | apply Kept.drewN | apply Kept.drew) | exact HK.out)) (fun k_ e_ => (HO295.out.1 k_ e_).1.1)); replace HR299 := aS_ ((show Kd.C (Kd.int .i64) w35 Ao31 y296.length y296 from by rw [Ny296.out]; exact Kd.C_take (m := (x5_1 : Int).toNat) ((Kd.R_reads' (Kd.R_after (ok := (fun k_ => (P0_ k_ ∨ w.heap.size ≤ k_))) (rr_ HO_0) hg hat)).2.2) KL34.out)); replace HO_0 := aS_ (Kd.R_after (ok := (fun k_ => (P0_ k_ ∨ w.heap.size ≤ k_))) (rr_ HO_0) hg hat); have HO302 := aS_ (ho); clear HO295; clear ho hb hg hat) | ((with_reducible refine gate_builtin (b := .append) (xs := #[.tmp 39, .tmp 41]) rfl ?_); at_builtin; refine Kd.R_append (Kd.int .i64) (w0 := w0) w0.heap.size rfl (.tmp 39) (.tmp 41) 24 3 (.int .i64 0) 8 rfl Tryz.underlying24 info3 rfl (by decide) (by omega) v301 y300 a1 [.int .i64 a1] (fun k_ => (P0_ k_ ∨ w.heap.size ≤ k_) ∧ some k_ ≠ (.slice Ao31 l0.length co31 : Value).ownBlock) (fun _ => False) rfl rfl ?aP (fun _ hk => hk.elim) ?aF ?aO ?aB ?aS ?aL ?_; (case aP => exact rfl); (case aB => exact (bb_ HB)); (case aF => exact (fun k_ hk => ⟨(.inr (Nat.le_trans (by first | exact HK.out.1 | exact (show Kept w _ (fun k_ => P0_ k_) from by repeat (first | (with_reducible first | exact HK.out | apply Kept.alloc | apply Kept.drewN | apply Kept.drew) | exact HK.out)).1) hk)), Kd.fresh' (Kd.R_lt (rr_ HO_0)) k_ hk⟩)); (case aO => exact (rr_ HO302)); (case aS => exact (below_size (bb_ HB))); (case aL => have := LMc27.out; omega); intro v304 w36 ho hb hg hat; rw [← Ny303.out] at ho; replace HB := aS_ (hb); replace HK := aS_ (Kept.of_grown (S := (fun k_ => P0_ k_)) hg (by repeat (first | (with_reducible first | exact HK.out | apply Kept.alloc | apply Kept.drewN | apply Kept.drew) | exact HK.out)) (fun k_ e_ => (HO302.out.1 k_ e_).1)); replace HR299 := aS_ ((show Kd.C (Kd.int .i64) w36 Ao31 y296.length y296 from by rw [Ny296.out]; exact Kd.C_take (m := (x5_1 : Int).toNat) ((Kd.R_reads' (Kd.R_after (ok := (fun k_ => (P0_ k_ ∨ w.heap.size ≤ k_))) (rr_ HO_0) hg hat)).2.2) KL34.out)); replace HO_0 := aS_ (Kd.R_after (ok := (fun k_ => (P0_ k_ ∨ w.heap.size ≤ k_))) (rr_ HO_0) hg hat); have HO305 := aS_ (ho); clear HO302; clear ho hb hg hat; have q37 : (x5_1 : Int) ≤ ((l0.length : Int) : Int) := of_decide_eq_true (by assumption); obtain ⟨i037, hi037, _, hsz37, _⟩ := info_parts info3; have hroom37 : l0.length ≤ co31 := (Kd.R_reads' HO_0.out).2.1; have hC37 : Kd.C (Kd.int .i64) _ Ao31 l0.length l0 := (Kd.R_reads' HO_0.out).2.2; have q037 : (0 : Int) ≤ (x5_1 : Int) := of_decide_eq_true (by assumption); have hcut37 := cut_from (P := Tryz.prog) 24 3 .i64 Tryz.underlying24 hi037 1 hsz37 Ao31 l0.length co31 x5_1 q037 q37; have hr37 := Kd.C_drop (m := (x5_1 : Int).toNat) (c := co31) hC37 (by omega) hroom37; obtain ⟨A37, hA37⟩ : ∃ A1, A1 = (if co31 = (x5_1 : Int).toNat then Ao31 else (Ao31 : Option Addr).map (·.add ((x5_1 : Int).toNat * 1))) := ⟨_, rfl⟩; obtain ⟨c37, hc37⟩ : ∃ c1, c1 = co31 - (x5_1 : Int).toNat := ⟨_, rfl⟩; have hy37 : y306.length = l0.length - (x5_1 : Int).toNat := (by rw [Ny306.out, List.length_drop] <;> omega); rw [show (l0).drop (x5_1 : Int).toNat = y306 from Ny306.out.symm] at hr37; replace hr37 : Kd.C (Kd.int .i64) _ A37 y306.length y306 := (by rw [hA37]; exact hr37); rw [← hy37, ← hA37, ← hc37] at hcut37; have HR309 := aS_ hr37; have HC309 := aS_ (show y306.length ≤ c37 from by rw [hy37, hc37]; exact Nat.sub_le_sub_right hroom37 _); clear hr37 hC37 hroom37 hi037 hsz37 hc37; have KY37 := aS_ hy37; have KA37 := aS_ hA37; clear hy37 hA37; have KL37 := aS_ (show (x5_1 : Int).toNat ≤ l0.length from by omega); replace q37 := eq_true q37) | ((with_reducible refine gate_builtin (b := .append) (xs := #[.tmp 43, .tmp 46]) rfl ?_); at_builtin; refine Kd.R_append_rows (Kd.int .i64) (w0 := w0) w0.heap.size rfl (.tmp 43) (.tmp 46) 24 3 (.int .i64 0) 8 rfl Tryz.underlying24 info3 rfl (by decide) (by omega) v304 y303 y306 _ _ _ (fun k_ => (P0_ k_ ∨ w.heap.size ≤ k_) ∧ some k_ ≠ (.slice Ao31 l0.length co31 : Value).ownBlock) (fun _ => False) rfl rfl ?aO ?aR (fun _ _ h => h) (fun _ h => h.elim) ?aF ?aB ?aS ?aL ?_; (case aR => repeat (first | exact (by repeat (first | (with_reducible exact HR309.out) | (with_reducible refine Kd.C_alloc ?_ _) | (with_reducible refine Kd.C_drewN ?_ _) | (with_reducible refine Kd.C_drew ?_) | exact HR309.out)) | (with_reducible refine Kd.C_alloc ?_ _) | (with_reducible refine Kd.C_drewN ?_ _) | (with_reducible refine Kd.C_drew ?_))); (case aB => exact (bb_ HB)); (case aF => exact (fun k_ hk => ⟨(.inr (Nat.le_trans (by first | exact HK.out.1 | exact (show Kept w _ (fun k_ => P0_ k_) from by repeat (first | (with_reducible first | exact HK.out | apply Kept.alloc | apply Kept.drewN | apply Kept.drew) | exact HK.out)).1) hk)), Kd.fresh' (Kd.R_lt (rr_ HO_0)) k_ hk⟩)); (case aO => exact (rr_ HO305)); (case aS => exact (below_size (bb_ HB))); (case aL => have := LMc30.out; omega); intro v311 w38 ho hb hg hat; rw [← Ny310.out] at ho; replace HB := aS_ (hb); replace HK := aS_ (Kept.of_grown (S := (fun k_ => P0_ k_)) hg (by repeat (first | (with_reducible first | exact HK.out | apply Kept.alloc | apply Kept.drewN | apply Kept.drew) | exact HK.out)) (fun k_ e_ => (HO305.out.1 k_ e_).1)); replace HR299 := aS_ ((show Kd.C (Kd.int .i64) w38 Ao31 y296.length y296 from by rw [Ny296.out]; exact Kd.C_take (m := (x5_1 : Int).toNat) ((Kd.R_reads' (Kd.R_after (ok := (fun k_ => (P0_ k_ ∨ w.heap.size ≤ k_))) (rr_ HO_0) hg hat)).2.2) KL34.out)); replace HR309 := aS_ ((show Kd.C (Kd.int .i64) w38 A37 y306.length y306 from by rw [Ny306.out, KA37.out]; exact Kd.C_drop (m := (x5_1 : Int).toNat) (c := co31) ((Kd.R_reads' (Kd.R_after (ok := (fun k_ => (P0_ k_ ∨ w.heap.size ≤ k_))) (rr_ HO_0) hg hat)).2.2) KL37.out ((Kd.R_reads' (Kd.R_after (ok := (fun k_ => (P0_ k_ ∨ w.heap.size ≤ k_))) (rr_ HO_0) hg hat)).2.1))); replace HO_0 := aS_ (Kd.R_after (ok := (fun k_ => (P0_ k_ ∨ w.heap.size ≤ k_))) (rr_ HO_0) hg hat); have HO312 := aS_ (ho); clear HO305; clear ho hb hg hat))
 go_ret
 exact ⟨_, by first | rfl | (simp [errW_none, errW_some] <;> rfl) | (simp [*, errW_none, errW_some] <;> rfl), by (with_reducible repeat (first | apply rA_ | apply rN_ | apply rD_)); exact Kd.R_mono HO312.out (fun _ hk => hk.1), bb_ HB, by repeat (first | (with_reducible first | exact HK.out | apply Kept.alloc | apply Kept.drewN | apply Kept.drew) | exact HK.out)⟩
/-! ### spec_prReady: function 69 -/
mutual
def spec_prReady.l0 : Nat → List Int → Int → List Int → List Int → Int → Int → Option (List Int)
 | 0, _, _, _, _, _, _ => none
 | k + 1, x1, x5, x6, x14, x15, x16 => if x16 < x15 then (if 0 ≤ x16 then (if x16 < (x14.length : Int) then (if (rd x14 x16) = (-1) then (spec_prReady.j1 k x1 x5 x6 x16 (rd x14 x16) x14 x15 x16 true) else (if x16 < (x1.length : Int) then (spec_prReady.j1 k x1 x5 x6 x16 (rd x14 x16) x14 x15 x16 ((rd x1 x16) != (-1))) else (none))) else (none)) else (none)) else (some x6)
def spec_prReady.j1 : Nat → List Int → Int → List Int → Int → Int → List Int → Int → Int → Bool → Option (List Int)
 | 0, _, _, _, _, _, _, _, _, _ => none
 | k + 1, x1, x5, x6, x7, x8, x14, x15, x16, x29 => if x29 = true then (spec_prReady.l0 k x1 x5 x6 x14 x15 (wrap64 (x16 + 1))) else ((spec_prCost.f x8 x7 x5).bind fun t316 => (spec_prReady.l1 k x1 x5 x6 x7 x8 true t316 x14 x15 x16))
def spec_prReady.l1 : Nat → List Int → Int → List Int → Int → Int → Bool → Int → List Int → Int → Int → Option (List Int)
 | 0, _, _, _, _, _, _, _, _, _, _ => none
 | k + 1, x1, x5, x6, x7, x8, x9, x10, x14, x15, x16 => if x10 > 0 then (if x9 = true then (if x5 = 0 then (none) else (if 0 ≤ (Int.tmod (wrap64 ((wrap64 (x7 - x10)) + x5)) x5) then (if (Int.tmod (wrap64 ((wrap64 (x7 - x10)) + x5)) x5) < (x1.length : Int) then (spec_prReady.l1 k x1 x5 x6 x7 x8 ((rd x1 (Int.tmod (wrap64 ((wrap64 (x7 - x10)) + x5)) x5)) != (-1)) (wrap64 (x10 - 1)) x14 x15 x16) else (none)) else (none))) else (spec_prReady.l1 k x1 x5 x6 x7 x8 false (wrap64 (x10 - 1)) x14 x15 x16)) else (if x9 = true then ((spec_l1Put.f k x6 x8).bind fun t318 => (spec_prReady.l0 k x1 x5 t318 x14 x15 (wrap64 (x16 + 1)))) else (spec_prReady.l0 k x1 x5 x6 x14 x15 (wrap64 (x16 + 1))))
end
def spec_prReady.f (k : Nat) (l0_0 : List Int) (l1 : List Int) : Option (List Int) := spec_prReady.l0 k l1 (l1.length : Int) ([] : List Int) l0_0 (l0_0.length : Int) 0
theorem spec_prReady.mono_l : ∀ k, (∀ y0 y1 y2 y3 y4 y5, LeO (spec_prReady.l0 k y0 y1 y2 y3 y4 y5) (spec_prReady.l0 (k + 1) y0 y1 y2 y3 y4 y5)) ∧ (∀ y0 y1 y2 y3 y4 y5 y6 y7 y8, LeO (spec_prReady.j1 k y0 y1 y2 y3 y4 y5 y6 y7 y8) (spec_prReady.j1 (k + 1) y0 y1 y2 y3 y4 y5 y6 y7 y8)) ∧ (∀ y0 y1 y2 y3 y4 y5 y6 y7 y8 y9, LeO (spec_prReady.l1 k y0 y1 y2 y3 y4 y5 y6 y7 y8 y9) (spec_prReady.l1 (k + 1) y0 y1 y2 y3 y4 y5 y6 y7 y8 y9))
 | 0 => ⟨fun _ _ _ _ _ _ r h => by simp [spec_prReady.l0] at h, fun _ _ _ _ _ _ _ _ _ r h => by simp [spec_prReady.j1] at h, fun _ _ _ _ _ _ _ _ _ _ r h => by simp [spec_prReady.l1] at h⟩
 | k + 1 => by
  obtain ⟨ih0, ih1, ih2⟩ := spec_prReady.mono_l k
  refine ⟨?_, ?_, ?_⟩
  ·intro y0 y1 y2 y3 y4 y5
   unfold spec_prReady.l0
   exact mo4_ ih0 ih1 ih2 spec_l1Put.mono
  ·intro y0 y1 y2 y3 y4 y5 y6 y7 y8
   unfold spec_prReady.j1
   exact mo4_ ih0 ih1 ih2 spec_l1Put.mono
  intro y0 y1 y2 y3 y4 y5 y6 y7 y8 y9
  unfold spec_prReady.l1
  exact mo4_ ih0 ih1 ih2 spec_l1Put.mono
theorem spec_prReady.mono : ∀ a0 a1 k, LeO (spec_prReady.f k a0 a1) (spec_prReady.f (k + 1) a0 a1) := by
 intro a0 a1 k
 obtain ⟨ih0, ih1, ih2⟩ := spec_prReady.mono_l k
 unfold spec_prReady.f
 exact mo4_ ih0 ih1 ih2 spec_l1Put.mono
set_option maxHeartbeats 8000000 in
set_option maxRecDepth 100000 in
theorem spec_prReady.calls (k : Nat) (A0_0 : Option Addr) (c0_0 : Nat) (l0_0 : List Int) (A1 : Option Addr) (c1 : Nat) (l1 : List Int) (r : List Int) (w : World) (hr0_0 : Kd.C (Kd.int .i64) w A0_0 l0_0.length l0_0) (hc0_0 : l0_0.length ≤ c0_0) (hr1 : Kd.C (Kd.int .i64) w A1 l1.length l1) (hc1 : l1.length ≤ c1) (h : spec_prReady.f k l0_0 l1 = some r) :
  Calls Tryz.prog 69 #[.agg #[.slice A0_0 l0_0.length c0_0], .slice A1 l1.length c1] w fun e w' => ∃ v0_ : Value, e = .returned (v0_) ∧ Kd.R (Kd.int .i64) 3 w' w.heap.size (fun _ => True) v0_ r ∧ Below w.heap.size w w' := by
 have hu26 := Tryz.underlying26
 have HR0_0 := aS_ hr0_0
 have HC0_0 := aS_ hc0_0
 clear hr0_0 hc0_0
 have HR1 := aS_ hr1
 have HC1 := aS_ hc1
 clear hr1 hc1
 have HB := aS_ (Below.refl w.heap.size w)
 have H : (spec_prReady.l0 k l1 (l1.length : Int) ([] : List Int) l0_0 (l0_0.length : Int) 0) = some r := h
 clear h
 have H' := aS_ H
 clear H
 go_enter Tryz.func69, Tryz.ntmps69
 go_wp2_with (first | ((with_reducible refine gg_ ?_); refine bx_ 2 #[.slice A0_0 l0_0.length c0_0] 26 ?_; intro gb313 hg w3 hbox hb; have BK313 := aS_ (hbox); have GW313 := gE_ HB hg; have GE313 := gE_ HB hg; replace HB := bE_ HB hb; clear hb hbox hg; obtain ⟨hcz4_0, hfz4_0⟩ := c10_ BK313))
 go_loopg [6, 16] k (fun kq v6 v16 w' => ∃ (x6_1 : List Int) (x16_1 : Int), v16 = .int .i64 x16_1 ∧ Aside0 (spec_prReady.l0 kq l1 (l1.length : Int) x6_1 l0_0 (l0_0.length : Int) x16_1 = some r) ∧ Aside0 (kq ≤ k) ∧ Aside0 (Kd.R (Kd.int .i64) 3 w' w.heap.size (fun _ => True) v6 x6_1) ∧ Aside0 (w'.heap[gb313]? = some (.cells #[(.slice A0_0 l0_0.length c0_0)] 26 (0, 0))) ∧ Aside0 (Below w.heap.size w w'))
 case atStart => exact ⟨(([] : List Int)), (0), sR_, H', ⟨Nat.le_refl _⟩, ⟨by first | exact Kd.R_nil _ _ _ _ _ | exact Kd.N_nil _ _ _ _ _ | exact Kd.V_nil _ _ _ _ _ | exact Kd.Q_nil _ _ _ _ _ | exact Kd.S_nil _ _ _ _ _⟩, ⟨kk_ BK313⟩, ⟨bb_ HB⟩⟩
 case round =>
 clear H'
 try clear c1
 try clear hcz4_0
 try clear hfz4_0
 obtain ⟨x6_1, x16_1, rfl, HA, HK1, HO_6, BK313, HB⟩ := hrel
 cases gk with
 | zero => exact absurd HA.out (by simp [spec_prReady.l0])
 | succ k1 =>
 have H := HA.out
 clear HA
 simp only [spec_prReady.l0] at H
 replace H := id_ H; rcases H with ⟨c5b0, H⟩ | ⟨c5b0, H⟩
 ·replace H := jd_ H; obtain ⟨c6b0, H⟩ := H
  replace H := jd_ H; obtain ⟨c7b0, H⟩ := H
  have HC8 := aS_ H
  clear H
  have p314 : 0 ≤ (x16_1 : Int) := of_decide_eq_true (by assumption)
  have q314 : x16_1 < (l0_0.length : Int) := of_decide_eq_true (by assumption)
  obtain ⟨ad314, e314, hx314_0⟩ := Kd.at_int HR0_0.out x16_1 p314 q314
  cases e314
  replace hx314_0 := (HB.out.cell (World.block_lt_of_cell? w _ hx314_0)).trans hx314_0
  replace p314 := eq_true p314
  replace q314 := eq_true q314
  go_upto_region 6 with (fail)
  go_cut [29] (fun v29 wc => ∃ (kq : Nat) (x29_7 : Bool), v29 = .bool x29_7 ∧ Aside0 (spec_prReady.j1 kq l1 (l1.length : Int) x6_1 x16_1 (rd l0_0 x16_1) l0_0 (l0_0.length : Int) x16_1 x29_7 = some r) ∧ Aside0 (kq ≤ k1) ∧ Aside0 (Kd.R (Kd.int .i64) 3 wc w.heap.size (fun _ => True) u6 x6_1) ∧ Aside0 (wc.heap[gb313]? = some (.cells #[(.slice (some ad314) l0_0.length c0_0)] 26 (0, 0))) ∧ Aside0 (Below w.heap.size w wc))
  case first =>
   have H := HC8.out
   clear HC8
   replace H := iq_ H; rcases H with ⟨c9b0, c9b1, H⟩ | ⟨c9b0, c9b1, c9, H⟩
   ·(first | rw [c9b0] | (simp only [i64_w, i32_w]; rw [c9b0]) | skip)
    have H' := aS_ H
    clear H
    go_wp2
    go_meet
    case rel => exact ⟨_, (true), sR_, H', ⟨by have := HK1.out; first | omega | exact Nat.le_refl _⟩, ⟨rr_ HO_6⟩, ⟨kk_ BK313⟩, ⟨bb_ HB⟩⟩
   (first | rw [c9b0] | (simp only [i64_w, i32_w]; rw [c9b0]) | skip)
   replace H := jd_ H; obtain ⟨c10b0, H⟩ := H
   have H' := aS_ H
   clear H
   have p315 : 0 ≤ (x16_1 : Int) := of_decide_eq_true (by assumption)
   have q315 : x16_1 < (l1.length : Int) := of_decide_eq_true (by assumption)
   obtain ⟨ad315, e315, hx315_0⟩ := Kd.at_int HR1.out x16_1 p315 q315
   cases e315
   replace hx315_0 := (HB.out.cell (World.block_lt_of_cell? w _ hx315_0)).trans hx315_0
   replace p315 := eq_true p315
   replace q315 := eq_true q315
   go_wp2
   go_meet
   case rel => exact ⟨_, (((rd l1 x16_1) != (-1))), sR_, H', ⟨by have := HK1.out; first | omega | exact Nat.le_refl _⟩, ⟨rr_ HO_6⟩, ⟨kk_ BK313⟩, ⟨bb_ HB⟩⟩
  case rest =>
  clear HC8
  try clear c1
  try clear c5b0
  try clear c6b0
  try clear c7b0
  try clear hcz4_0
  try clear hfz4_0
  try clear hx314_0
  try clear p314
  try clear q314
  obtain ⟨kq, x29_7, rfl, HA, HJ7, HO_6, BK313, HB⟩ := hcut
  cases kq with
  | zero => exact absurd HA.out (by simp [spec_prReady.j1])
  | succ kj7 =>
  have H := HA.out
  clear HA
  simp only [spec_prReady.j1] at H
  replace H := it_ H; rcases H with ⟨rfl, H⟩ | ⟨rfl, H⟩
  ·have H' := aS_ H
   clear H
   go_wp2
   go_roundg kj7
   case measure => have := HK1.out; have := HJ7.out; omega
   case rel => exact ⟨(x6_1), (wrap64 (x16_1 + 1)), sR_, H', ⟨by have := HK1.out; have := HJ7.out; omega⟩, ⟨rr_ HO_6⟩, ⟨kk_ BK313⟩, ⟨bb_ HB⟩⟩
  replace H := bs_ H; obtain ⟨t316, A12, H⟩ := H
  have H' := aS_ H
  clear H
  go_wp2_with (first | ((with_reducible refine gg_ ?_); refine gc_ 68 (some 33) Tryz.func68 #[.int .i64 (rd l0_0 x16_1), .int .i64 x16_1, .int .i64 (l1.length : Int)] ?_; (with_reducible refine (spec_prCost.calls (rd l0_0 x16_1) x16_1 (l1.length : Int) t316 _ A12.out).mono ?_); rintro e w' ⟨rfl, ⟨nd, rfl⟩⟩; refine ⟨_, rfl, ?_⟩))
  go_loopg [9, 10] kj7 (fun kq v9 v10 w' => ∃ (x9_3 : Bool) (x10_3 : Int), v9 = .bool x9_3 ∧ v10 = .int .i64 x10_3 ∧ Aside0 (spec_prReady.l1 kq l1 (l1.length : Int) x6_1 x16_1 (rd l0_0 x16_1) x9_3 x10_3 l0_0 (l0_0.length : Int) x16_1 = some r) ∧ Aside0 (kq ≤ kj7) ∧ Aside0 (Kd.R (Kd.int .i64) 3 w' w.heap.size (fun _ => True) u6 x6_1) ∧ Aside0 (w'.heap[gb313]? = some (.cells #[(.slice (some ad314) l0_0.length c0_0)] 26 (0, 0))) ∧ Aside0 (Below w.heap.size w w'))
  case atStart => exact ⟨(true), (t316), sR_, sR_, H', ⟨Nat.le_refl _⟩, ⟨rr_ HO_6⟩, ⟨kk_ BK313⟩, ⟨bb_ HB⟩⟩
  case round =>
  clear H'
  try clear c1
  try clear c5b0
  try clear c6b0
  try clear c7b0
  try clear hcz4_0
  try clear hfz4_0
  try clear hx314_0
  try clear p314
  try clear q314
  obtain ⟨x9_3, x10_3, rfl, rfl, HA, HK3, HO_6, BK313, HB⟩ := hrel
  cases gk with
  | zero => exact absurd HA.out (by simp [spec_prReady.l1])
  | succ k3 =>
  have H := HA.out
  clear HA
  simp only [spec_prReady.l1] at H
  replace H := id_ H; rcases H with ⟨c13b0, H⟩ | ⟨c13b0, H⟩
  ·replace H := it_ H; rcases H with ⟨rfl, H⟩ | ⟨rfl, H⟩
   ·replace H := jn_ H; obtain ⟨c15, H⟩ := H
    have c15b0 : ((l1.length : Int) == 0) = false := beq_eq_false_iff_ne.mpr c15
    have c15b1 : ((l1.length : Int) != 0) = true := bne_iff_ne.mpr c15
    have c15b2 : ¬ (l1 = []) := fun h_ => c15 (by rw [h_]; rfl)
    obtain ⟨ji16, hji16⟩ : ∃ j_ : Int, (Int.tmod (wrap64 ((wrap64 (x16_1 - x10_3)) + (l1.length : Int))) (l1.length : Int)) = j_ := ⟨_, rfl⟩
    replace H : (if 0 ≤ (ji16) then (if (ji16) < (l1.length : Int) then (spec_prReady.l1 k3 l1 (l1.length : Int) x6_1 x16_1 (rd l0_0 x16_1) ((rd l1 (ji16)) != (-1)) (wrap64 (x10_3 - 1)) l0_0 (l0_0.length : Int) x16_1) else (none)) else (none)) = some r := by first | (rw [hji16] at H; exact H) | (simp only [hji16] at H ⊢; exact H)
    replace H := jd_ H; obtain ⟨c17b0, H⟩ := H
    replace H := jd_ H; obtain ⟨c18b0, H⟩ := H
    have H' := aS_ H
    clear H
    have p317 : 0 ≤ ((ji16) : Int) := of_decide_eq_true (by assumption)
    have q317 : (ji16) < (l1.length : Int) := of_decide_eq_true (by assumption)
    obtain ⟨ad317, e317, hx317_0⟩ := Kd.at_int HR1.out (ji16) p317 q317
    cases e317
    replace hx317_0 := (HB.out.cell (World.block_lt_of_cell? w _ hx317_0)).trans hx317_0
    replace p317 := eq_true p317
    replace q317 := eq_true q317
    go_wp2
    go_roundg k3
    case measure => have := HK1.out; have := HJ7.out; have := HK3.out; omega
    case rel => exact ⟨(((rd l1 (ji16)) != (-1))), (wrap64 (x10_3 - 1)), (by first | rfl | (simp; done) | (simp only [← hji16] <;> (first | rfl | simp)) | (simp [*]; done)), sR_, H', ⟨by have := HK1.out; have := HJ7.out; have := HK3.out; omega⟩, ⟨rr_ HO_6⟩, ⟨kk_ BK313⟩, ⟨bb_ HB⟩⟩
   have H' := aS_ H
   clear H
   go_wp2
   go_roundg k3
   case measure => have := HK1.out; have := HJ7.out; have := HK3.out; omega
   case rel => exact ⟨(false), (wrap64 (x10_3 - 1)), sR_, sR_, H', ⟨by have := HK1.out; have := HJ7.out; have := HK3.out; omega⟩, ⟨rr_ HO_6⟩, ⟨kk_ BK313⟩, ⟨bb_ HB⟩⟩
  replace H := it_ H; rcases H with ⟨rfl, H⟩ | ⟨rfl, H⟩
  ·replace H := bs_ H; obtain ⟨t318, A20, H⟩ := H
   have H' := aS_ H
   clear H
   obtain ⟨Ao21, co21, eo21⟩ := Kd.R_slice HO_6.out
   subst eo21
   go_wp2_with (first | ((with_reducible refine gg_ ?_); refine gc_ 91 (some 55) Tryz.func91 #[.slice Ao21 x6_1.length co21, .int .i64 (rd l0_0 x16_1)] ?_; (with_reducible refine (spec_l1Put.calls k3 (fun k_ => some k_ = (.slice Ao21 x6_1.length co21 : Value).ownBlock) (.slice Ao21 x6_1.length co21) x6_1 (rd l0_0 x16_1) t318 w _ ?side1 ?side2 A20.out).mono ?_); (case side1 => repeat (first | (with_reducible first | exact HB.out | apply bA_ | apply pN_ | apply bD_ | refine bS_ ?_ GE313.out) | exact HB.out)); (case side2 => exact Kd.R_tight rfl HO_6.out); rintro e w22 ⟨v319, rfl, ho0, hb, hkp⟩; refine ⟨_, rfl, ?_⟩; replace BK313 := aS_ (blk_kept (kk_ BK313) hkp (fun hs_ => (fun e_ => (Kd.R_ne HO_6.out BK313.out (by decide)) e_) hs_)); have HO320 := aS_ (Kd.R_mono (ok' := fun k_ => True) ho0 (fun k_ hk_ => trivial)); replace HB := aS_ (hb); clear HO_6; (try clear hb); (try clear hkp); (try clear ho0)))
   go_roundg k3
   case measure => have := HK1.out; have := HJ7.out; have := HK3.out; omega
   case rel => exact ⟨(t318), (wrap64 (x16_1 + 1)), sR_, H', ⟨by have := HK1.out; have := HJ7.out; have := HK3.out; omega⟩, ⟨rr_ HO320⟩, ⟨kk_ BK313⟩, ⟨bb_ HB⟩⟩
  have H' := aS_ H
  clear H
  go_wp2
  go_roundg k3
  case measure => have := HK1.out; have := HJ7.out; have := HK3.out; omega
  case rel => exact ⟨(x6_1), (wrap64 (x16_1 + 1)), sR_, H', ⟨by have := HK1.out; have := HJ7.out; have := HK3.out; omega⟩, ⟨rr_ HO_6⟩, ⟨kk_ BK313⟩, ⟨bb_ HB⟩⟩
 obtain rfl := Option.some.inj H
 go_wp2
 go_ret
 exact ⟨_, by first | rfl | (simp [errW_none, errW_some] <;> rfl) | (simp [*, errW_none, errW_some] <;> rfl), rr_ HO_6, bb_ HB⟩

set_option maxRecDepth 100000 in
theorem fld_13 (v : Value) (w : World) : Sem.run Tryz.prog (Instr.field 26 (Value.agg #[v]) 0) w = .ok v w := by kernel_rfl
attribute [local go_sem] fld_13
/-! ### spec_prPlace: function 70 -/
def spec_prPlace.l0 : Nat → Int → List Int → Int → Int → Option (Int)
 | 0, _, _, _, _ => none
 | k + 1, x1, x8, x9, x10 => if x10 < x9 then (if 0 ≤ x10 then (if x10 < (x8.length : Int) then (if (rd x8 x10) = x1 then (some x10) else (spec_prPlace.l0 k x1 x8 x9 (wrap64 (x10 + 1)))) else (none)) else (none)) else (some (-1))
def spec_prPlace.f (k : Nat) (l0_0 : List Int) (a1 : Int) : Option (Int) := spec_prPlace.l0 k a1 l0_0 (l0_0.length : Int) 0
theorem spec_prPlace.mono_l : ∀ k, (∀ y0 y1 y2 y3, LeO (spec_prPlace.l0 k y0 y1 y2 y3) (spec_prPlace.l0 (k + 1) y0 y1 y2 y3))
 | 0 => fun _ _ _ _ r h => by simp [spec_prPlace.l0] at h
 | k + 1 => by
  have ih0 := spec_prPlace.mono_l k
  intro y0 y1 y2 y3
  unfold spec_prPlace.l0
  exact mo1_ ih0
theorem spec_prPlace.mono : ∀ a0 a1 k, LeO (spec_prPlace.f k a0 a1) (spec_prPlace.f (k + 1) a0 a1) := by
 intro a0 a1 k
 have ih0 := spec_prPlace.mono_l k
 unfold spec_prPlace.f
 exact mo1_ ih0
set_option maxHeartbeats 8000000 in
set_option maxRecDepth 100000 in
theorem spec_prPlace.calls (k : Nat) (A0_0 : Option Addr) (c0_0 : Nat) (l0_0 : List Int) (a1 : Int) (r : Int) (w : World) (hr0_0 : Kd.C (Kd.int .i64) w A0_0 l0_0.length l0_0) (hc0_0 : l0_0.length ≤ c0_0) (h : spec_prPlace.f k l0_0 a1 = some r) :
  Calls Tryz.prog 70 #[.agg #[.slice A0_0 l0_0.length c0_0], .int .i64 a1] w fun e w' => e = .returned (.int .i64 r) ∧ Below w.heap.size w w' := by
 have hu26 := Tryz.underlying26
 have HR0_0 := aS_ hr0_0
 have HC0_0 := aS_ hc0_0
 clear hr0_0 hc0_0
 have HB := aS_ (Below.refl w.heap.size w)
 have H : (spec_prPlace.l0 k a1 l0_0 (l0_0.length : Int) 0) = some r := h
 clear h
 have H' := aS_ H
 clear H
 go_enter Tryz.func70, Tryz.ntmps70
 go_wp2_with (first | ((with_reducible refine gg_ ?_); refine bx_ 2 #[.slice A0_0 l0_0.length c0_0] 26 ?_; intro gb321 hg w3 hbox hb; have BK321 := aS_ (hbox); have GW321 := gE_ HB hg; have GE321 := gE_ HB hg; replace HB := bE_ HB hb; clear hb hbox hg; obtain ⟨hcz4_0, hfz4_0⟩ := c10_ BK321))
 go_loopg [10] k (fun kq v10 w' => ∃ (x10_1 : Int), v10 = .int .i64 x10_1 ∧ Aside0 (spec_prPlace.l0 kq a1 l0_0 (l0_0.length : Int) x10_1 = some r) ∧ Aside0 (kq ≤ k) ∧ Aside0 (w'.heap[gb321]? = some (.cells #[(.slice A0_0 l0_0.length c0_0)] 26 (0, 0))) ∧ Aside0 (Below w.heap.size w w'))
 case atStart => exact ⟨(0), sR_, H', ⟨Nat.le_refl _⟩, ⟨kk_ BK321⟩, ⟨bb_ HB⟩⟩
 case round =>
 clear H'
 try clear hcz4_0
 try clear hfz4_0
 obtain ⟨x10_1, rfl, HA, HK1, BK321, HB⟩ := hrel
 cases gk with
 | zero => exact absurd HA.out (by simp [spec_prPlace.l0])
 | succ k1 =>
 have H := HA.out
 clear HA
 simp only [spec_prPlace.l0] at H
 replace H := id_ H; rcases H with ⟨c5b0, H⟩ | ⟨c5b0, H⟩
 ·replace H := jd_ H; obtain ⟨c6b0, H⟩ := H
  replace H := jd_ H; obtain ⟨c7b0, H⟩ := H
  replace H := iq_ H; rcases H with ⟨c8b0, c8b1, H⟩ | ⟨c8b0, c8b1, c8, H⟩
  ·obtain rfl := Option.some.inj H
   have p322 : 0 ≤ (x10_1 : Int) := of_decide_eq_true (by assumption)
   have q322 : x10_1 < (l0_0.length : Int) := of_decide_eq_true (by assumption)
   obtain ⟨ad322, e322, hx322_0⟩ := Kd.at_int HR0_0.out x10_1 p322 q322
   cases e322
   replace hx322_0 := (HB.out.cell (World.block_lt_of_cell? w _ hx322_0)).trans hx322_0
   replace p322 := eq_true p322
   replace q322 := eq_true q322
   go_wp2
   go_ret
   exact ⟨eR_, bb_ HB⟩
  have H' := aS_ H
  clear H
  have p322 : 0 ≤ (x10_1 : Int) := of_decide_eq_true (by assumption)
  have q322 : x10_1 < (l0_0.length : Int) := of_decide_eq_true (by assumption)
  obtain ⟨ad322, e322, hx322_0⟩ := Kd.at_int HR0_0.out x10_1 p322 q322
  cases e322
  replace hx322_0 := (HB.out.cell (World.block_lt_of_cell? w _ hx322_0)).trans hx322_0
  replace p322 := eq_true p322
  replace q322 := eq_true q322
  go_wp2
  go_roundg k1
  case measure => have := HK1.out; omega
  case rel => exact ⟨(wrap64 (x10_1 + 1)), sR_, H', ⟨by have := HK1.out; omega⟩, ⟨kk_ BK321⟩, ⟨bb_ HB⟩⟩
 obtain rfl := Option.some.inj H
 go_wp2
 go_ret
 exact ⟨eR_, bb_ HB⟩
/-! ### spec_prFirst: function 31 -/
def spec_prFirst.l0 : Nat → List Int → List Int → List Int → List Int → Option (List Int)
 | 0, _, _, _, _ => none
 | k + 1, x3, x4, x5, x324000 => if (x5.length : Int) > 0 then (if 0 < (x5.length : Int) then ((spec_prPlace.f k x324000 (rd x5 0)).bind fun t331 => (if 0 ≤ t331 then (if t331 < (x3.length : Int) then ((some (x3.set (t331 : Int).toNat (rd x5 0) : List Int)).bind fun y333 => (if x4.length < 17592186044416 then ((spec_prReady.f k x324000 y333).bind fun t338 => (spec_prFirst.l0 k y333 (x4 ++ [rd x5 0]) t338 x324000)) else (none))) else (none)) else (none))) else (none)) else (some x4)
def spec_prFirst.f (k : Nat) (l0_0 : List Int) : Option (List Int) := (spec_prEmpty.f k (l0_0.length : Int)).bind fun t324 => ((spec_prReady.f k l0_0 t324).bind fun t327 => (spec_prFirst.l0 k t324 ([] : List Int) t327 l0_0))
theorem spec_prFirst.mono_l : ∀ k, (∀ y0 y1 y2 y3, LeO (spec_prFirst.l0 k y0 y1 y2 y3) (spec_prFirst.l0 (k + 1) y0 y1 y2 y3))
 | 0 => fun _ _ _ _ r h => by simp [spec_prFirst.l0] at h
 | k + 1 => by
  have ih0 := spec_prFirst.mono_l k
  intro y0 y1 y2 y3
  unfold spec_prFirst.l0
  exact mo4_ ih0 spec_prEmpty.mono spec_prPlace.mono spec_prReady.mono
theorem spec_prFirst.mono : ∀ a0 k, LeO (spec_prFirst.f k a0) (spec_prFirst.f (k + 1) a0) := by
 intro a0 k
 have ih0 := spec_prFirst.mono_l k
 unfold spec_prFirst.f
 exact mo4_ ih0 spec_prEmpty.mono spec_prPlace.mono spec_prReady.mono
def spec_prFirst.T6 : Bool × List (List Nat × List Nat) := (true, [([], []), ([], []), ([], []), ([2], [2]), ([3], [3]), ([1, 4], [1, 4]), ([], []), ([6], [6]), ([7], [7]), ([0, 5, 0, 1, 2, 3, 4, 5, 6, 7, 8], [0, 5]), ([9, 8, 5, 0, 1, 2, 3, 4, 5, 6, 7, 8], [8, 9])])
def spec_prFirst.B6 : List Nat := [0, 0, 0, 4, 12, 30, 0, 64, 192, 511, 1023]
theorem spec_prFirst.tab6 : rtab .any (opsOf Tryz.f31 6) = spec_prFirst.T6 := by kernel_rfl
theorem spec_prFirst.bits6 : waitsOk spec_prFirst.T6.2 spec_prFirst.B6 = true := by kernel_rfl
set_option maxHeartbeats 8000000 in
set_option maxRecDepth 100000 in
theorem spec_prFirst.calls (k : Nat) (A0_0 : Option Addr) (c0_0 : Nat) (l0_0 : List Int) (r : List Int) (w : World) (hr0_0 : Kd.C (Kd.int .i64) w A0_0 l0_0.length l0_0) (hc0_0 : l0_0.length ≤ c0_0) (h : spec_prFirst.f k l0_0 = some r) :
  Calls Tryz.prog 31 #[.agg #[.slice A0_0 l0_0.length c0_0]] w fun e w' => ∃ v0_ : Value, e = .returned (v0_) ∧ Kd.R (Kd.int .i64) 3 w' w.heap.size (fun _ => True) v0_ r ∧ Below w.heap.size w w' := by
 have hu26 := Tryz.underlying26
 have HR0_0 := aS_ hr0_0
 have HC0_0 := aS_ hc0_0
 clear hr0_0 hc0_0
 have HB := aS_ (Below.refl w.heap.size w)
 have H : ((spec_prEmpty.f k (l0_0.length : Int)).bind fun t324 => ((spec_prReady.f k l0_0 t324).bind fun t327 => (spec_prFirst.l0 k t324 ([] : List Int) t327 l0_0))) = some r := h
 clear h
 replace H := bs_ H; obtain ⟨t324, A2, H⟩ := H
 replace H := bs_ H; obtain ⟨t327, A3, H⟩ := H
 have H' := aS_ H
 clear H
 go_enter Tryz.func31, Tryz.ntmps31
 go_wp2_with (first | ((with_reducible refine gg_ ?_); refine bx_ 1 #[.slice A0_0 l0_0.length c0_0] 26 ?_; intro gb323 hg w4 hbox hb; have BK323 := aS_ (hbox); have GW323 := gE_ HB hg; have GE323 := gE_ HB hg; replace HB := bE_ HB hb; clear hb hbox hg; obtain ⟨hcz5_0, hfz5_0⟩ := c10_ BK323) | ((with_reducible refine gg_ ?_); refine gc_ 36 (some 9) Tryz.func36 #[.int .i64 (l0_0.length : Int)] ?_; (with_reducible refine (spec_prEmpty.calls k (l0_0.length : Int) t324 _ A2.out).mono ?_); rintro e w6 ⟨v325, rfl, ho0, hb⟩; refine ⟨_, rfl, ?_⟩; have HO326 := aS_ (Kd.R_lower ho0 (below_size (bb_ HB))); replace BK323 := kO_ BK323 hb; replace HB := bE_ HB hb; (try clear hb); (try clear ho0); obtain ⟨hcz7_0, hfz7_0⟩ := c10_ BK323; obtain ⟨Ao8, co8, eo8⟩ := Kd.R_slice HO326.out; subst eo8) | ((with_reducible refine gg_ ?_); refine gc_ 69 (some 13) Tryz.func69 #[.agg #[.slice A0_0 l0_0.length c0_0], .slice Ao8 t324.length co8] ?_; (with_reducible refine (spec_prReady.calls k _ _ l0_0 _ _ t324 t327 _ ?side1 ?side2 ?side3 ?side4 A3.out).mono ?_); (case side1 => exact cB_ HR0_0 HB); (case side2 => exact HC0_0.out); (case side3 => exact cR_ HO326); (case side4 => exact (Kd.R_reads' HO326.out).2.1); rintro e w9 ⟨v328, rfl, ho0, hb⟩; refine ⟨_, rfl, ?_⟩; have HO329 := aS_ (Kd.R_lower (Kd.R_new' ho0 (Kd.R_lt (rr_ HO326))) (below_size (bb_ HB))); replace HO326 := aS_ (Kd.R_elder' (rr_ HO326) (Kd.R_base ho0) hb); replace BK323 := kO_ BK323 hb; replace HB := bE_ HB hb; (try clear hb); (try clear ho0)))
 go_loopg [4, 5] k (fun kq v4 v5 w' => ∃ (x3_1 : List Int) (x4_1 : List Int) (x5_1 : List Int), Aside0 (spec_prFirst.l0 kq x3_1 x4_1 x5_1 l0_0 = some r) ∧ Aside0 (kq ≤ k) ∧ Aside0 (Kd.R (Kd.int .i64) 3 w' w.heap.size (fun k_ => some k_ ≠ (v4 : Value).ownBlock ∧ some k_ ≠ (v5 : Value).ownBlock) (.slice Ao8 t324.length co8) x3_1) ∧ Aside0 (Kd.R (Kd.int .i64) 3 w' w.heap.size (fun k_ => some k_ ≠ ((.slice Ao8 t324.length co8) : Value).ownBlock ∧ some k_ ≠ (v5 : Value).ownBlock) v4 x4_1) ∧ Aside0 (Kd.R (Kd.int .i64) 3 w' w.heap.size (fun k_ => some k_ ≠ ((.slice Ao8 t324.length co8) : Value).ownBlock ∧ some k_ ≠ (v4 : Value).ownBlock) v5 x5_1) ∧ Aside0 (w'.heap[gb323]? = some (.cells #[(.slice A0_0 l0_0.length c0_0)] 26 (0, 0))) ∧ Aside0 (Below w.heap.size w w'))
 case atStart => exact ⟨(t324), (([] : List Int)), (t327), H', ⟨Nat.le_refl _⟩, ⟨by (with_reducible repeat (first | apply rA_ | apply rN_ | apply rD_)); exact Kd.R_mono HO326.out (fun _ hk => ⟨(by simp [Value.ownBlock]), hk.2⟩)⟩, ⟨by first | exact Kd.R_nil _ _ _ _ _ | exact Kd.N_nil _ _ _ _ _ | exact Kd.V_nil _ _ _ _ _ | exact Kd.Q_nil _ _ _ _ _ | exact Kd.S_nil _ _ _ _ _⟩, ⟨by (with_reducible repeat (first | apply rA_ | apply rN_ | apply rD_)); exact Kd.R_mono HO329.out (fun _ hk => ⟨hk.2, (by simp [Value.ownBlock])⟩)⟩, ⟨kk_ BK323⟩, ⟨bb_ HB⟩⟩
 case round =>
 clear H'
 try clear hcz5_0
 try clear hcz7_0
 try clear hfz5_0
 try clear hfz7_0
 obtain ⟨x3_1, x4_1, x5_1, HA, HK1, HO_3, HO_4, HO_5, BK323, HB⟩ := hrel
 have hl3_1 := (Kd.R_reads' HO_3.out).1
 rw [hl3_1] at HO_3
 (try simp only [hl3_1])
 (try simp only [hl3_1] at BK323)
 (try simp only [hl3_1] at HO_4)
 (try simp only [hl3_1] at HO_5)
 cases gk with
 | zero => exact absurd HA.out (by simp [spec_prFirst.l0])
 | succ k1 =>
 have H := HA.out
 clear HA
 simp only [spec_prFirst.l0] at H
 by_cases c10 : (x5_1.length : Int) > 0
 ·rw [if_pos c10] at H
  have c10b0 : decide (0 < (x5_1.length : Int)) = true := decide_eq_true c10
  have c10b1 : decide (0 < x5_1.length) = true := decide_eq_true (by omega)
  clear c10
  replace H := jp_ H; obtain ⟨c11, H⟩ := H
  have c11b0 : decide (0 < (x5_1.length : Int)) = true := decide_eq_true c11
  have c11b1 : decide (0 < x5_1.length) = true := decide_eq_true (by omega)
  clear c11
  replace H := bs_ H; obtain ⟨t331, A12, H⟩ := H
  replace H := jd_ H; obtain ⟨c13b0, H⟩ := H
  replace H := jd_ H; obtain ⟨c14b0, H⟩ := H
  obtain ⟨y333, hy333⟩ : ∃ y_ : List Int, y_ = (x3_1.set (t331 : Int).toNat (rd x5_1 0)) := ⟨_, rfl⟩
  replace H : (if x4_1.length < 17592186044416 then ((spec_prReady.f k1 l0_0 y333).bind fun t338 => (spec_prFirst.l0 k1 y333 (x4_1 ++ [rd x5_1 0]) t338 l0_0)) else (none)) = some r := yH_ hy333 H
  have Ny333 := aS_ hy333
  clear hy333
  replace H := jp_ H; obtain ⟨c16, H⟩ := H
  have LMc16 := aS_ c16
  clear c16
  obtain ⟨y335, hy335⟩ : ∃ y_ : List Int, y_ = (x4_1 ++ [rd x5_1 0]) := ⟨_, rfl⟩
  replace H : ((spec_prReady.f k1 l0_0 y333).bind fun t338 => (spec_prFirst.l0 k1 y333 y335 t338 l0_0)) = some r := yH_ hy335 H
  have Ny335 := aS_ hy335
  clear hy335
  replace H := bs_ H; obtain ⟨t338, A17, H⟩ := H
  have H' := aS_ H
  clear H
  obtain ⟨Ao18, co18, eo18⟩ := Kd.R_slice HO_5.out
  subst eo18
  try go_wp2
  replace HO_3 := aS_ (rD_ HO_3.out)
  replace HO_4 := aS_ (rD_ HO_4.out)
  replace HO_5 := aS_ (rD_ HO_5.out)
  replace BK323 := aS_ (kD_ BK323.out)
  replace HB := aS_ (bD_ HB.out)
  have p330 : 0 ≤ (0 : Int) := (by omega)
  have q330 : 0 < (x5_1.length : Int) := of_decide_eq_true (by assumption)
  obtain ⟨ad330, e330, hx330_0⟩ := Kd.at_int (Kd.R_reads' HO_5.out).2.2 0 p330 q330
  cases e330
  have qi330 : (0 < x5_1.length) = True := eq_true (by omega)
  (try rw [show ((0 : Int)).toNat = 0 from rfl] at hx330_0)
  (try rw [Addr.add_zero'] at hx330_0)
  replace p330 := eq_true p330
  replace q330 := eq_true q330
  have p332 : 0 ≤ (0 : Int) := (by omega)
  have q332 : 0 < (x5_1.length : Int) := of_decide_eq_true (by assumption)
  obtain ⟨ad332, e332, hx332_0⟩ := Kd.at_int (Kd.R_reads' HO_5.out).2.2 0 p332 q332
  obtain rfl : ad330 = ad332 := (by injection e332)
  have qi332 : (0 < x5_1.length) = True := eq_true (by omega)
  (try rw [show ((0 : Int)).toNat = 0 from rfl] at hx332_0)
  (try rw [Addr.add_zero'] at hx332_0)
  replace p332 := eq_true p332
  replace q332 := eq_true q332
  refine start_ (n := 11) (S := fun w' => w'.cell? ⟨gb323, 0, none⟩ = some (.slice A0_0 l0_0.length c0_0) ∧ w'.cell? ad330 = some (.int .i64 (rd x5_1 0)) ∧ w'.cell? ad330 = some (.int .i64 (rd x5_1 0))) (ds := [10]) #[false, false, false, false, false, false, false, false, false, false, false] (by kernel_rfl) rfl rfl ⟨(blk_cell BK323.out 0).trans rfl, hx330_0, hx332_0⟩ (fun hHeld => ?_); refine with_tabW spec_prFirst.tab6 spec_prFirst.bits6 (fun HT_ HW_ => ?_)
  generalize wr.drew = w19 at HO_3 HO_4 HO_5 BK323 HB hx330_0 hx332_0 hHeld ⊢
  refine pure_ (i := 0) (N := some 20) (v := ?_) (a' := ?_) #[true, false, false, false, false, false, false, false, false, false, false] rfl rfl (any_of HT_.out (by kernel_rfl)) (fun _ _ _ h => h) (Or.inl ⟨by rfl, ?_⟩) ?_ ?_
  rotate_left
  ·intro w'
   go_simp
   (try simp only [fld_13, Result.andThen])
   with_reducible rfl
  rotate_left
  ·simp only [Act.put, List.setIfInBounds_toArray, List.set_cons_zero, List.set_cons_succ, i64_w, i32_w]
   rfl
  refine pure_ (i := 2) (N := some 22) (v := ?_) (a' := ?_) #[true, false, true, false, false, false, false, false, false, false, false] rfl rfl (any_of HT_.out (by kernel_rfl)) (fun _ _ _ h => h) (Or.inl ⟨by rfl, ?_⟩) ?_ ?_
  rotate_left
  ·intro w'
   go_simp
   (try simp only [fld_13, Result.andThen])
   with_reducible rfl
  rotate_left
  ·simp only [Act.put, List.setIfInBounds_toArray, List.set_cons_zero, List.set_cons_succ, i64_w, i32_w]
   rfl
  refine pure_ (i := 3) (N := some 23) (v := ?_) (a' := ?_) #[true, false, true, true, false, false, false, false, false, false, false] rfl rfl (any_of HT_.out (by kernel_rfl)) (fun _ _ _ h => h) (Or.inl ⟨by rfl, ?_⟩) ?_ ?_
  rotate_left
  ·intro w'
   go_simp
   (try simp only [fld_13, Result.andThen])
   with_reducible rfl
  rotate_left
  ·simp only [Act.put, List.setIfInBounds_toArray, List.set_cons_zero, List.set_cons_succ, i64_w, i32_w]
   rfl
  refine pure_ (i := 6) (N := some 26) (v := ?_) (a' := ?_) #[true, false, true, true, false, false, true, false, false, false, false] rfl rfl (any_of HT_.out (by kernel_rfl)) (fun _ _ _ h => h) (Or.inl ⟨by rfl, ?_⟩) ?_ ?_
  rotate_left
  ·intro w'
   go_simp
   (try simp only [fld_13, Result.andThen])
   with_reducible rfl
  rotate_left
  ·simp only [Act.put, List.setIfInBounds_toArray, List.set_cons_zero, List.set_cons_succ, i64_w, i32_w]
   rfl
  refine pure_ (i := 7) (N := some 27) (v := ?_) (a' := ?_) #[true, false, true, true, false, false, true, true, false, false, false] rfl rfl (any_of HT_.out (by kernel_rfl)) (fun _ _ _ h => h) (Or.inl ⟨by rfl, ?_⟩) ?_ ?_
  rotate_left
  ·intro w'
   go_simp
   (try simp only [fld_13, Result.andThen])
   with_reducible rfl
  rotate_left
  ·simp only [Act.put, List.setIfInBounds_toArray, List.set_cons_zero, List.set_cons_succ, i64_w, i32_w]
   rfl
  refine take_ (i := 1) (N := some 21) (v := ?_) (a' := ?_) #[true, true, true, true, false, false, true, true, false, false, false] rfl rfl (take_ofW HT_.out HW_.out (by kernel_rfl)) (fun _ _ _ h => h) (Or.inl ⟨by rfl, ?_⟩) hHeld ?_ ?_
  rotate_left
  ·rintro w' ⟨s0, s1, s2⟩
   go_simp
   (try simp only [fld_13, Result.andThen])
   with_reducible rfl
  rotate_left
  ·simp only [Act.put, List.setIfInBounds_toArray, List.set_cons_zero, List.set_cons_succ, i64_w, i32_w]
   rfl
  refine take_ (i := 4) (N := some 24) (v := ?_) (a' := ?_) #[true, true, true, true, true, false, true, true, false, false, false] rfl rfl (take_ofW HT_.out HW_.out (by kernel_rfl)) (fun _ _ _ h => h) (Or.inl ⟨by rfl, ?_⟩) hHeld ?_ ?_
  rotate_left
  ·rintro w' ⟨s0, s1, s2⟩
   go_simp
   (try simp only [fld_13, Result.andThen])
   with_reducible rfl
  rotate_left
  ·simp only [Act.put, List.setIfInBounds_toArray, List.set_cons_zero, List.set_cons_succ, i64_w, i32_w]
   rfl
  refine take_ (i := 8) (N := some 28) (v := ?_) (a' := ?_) #[true, true, true, true, true, false, true, true, true, false, false] rfl rfl (take_ofW HT_.out HW_.out (by kernel_rfl)) (fun _ _ _ h => h) (Or.inl ⟨by rfl, ?_⟩) hHeld ?_ ?_
  rotate_left
  ·rintro w' ⟨s0, s1, s2⟩
   go_simp
   (try simp only [fld_13, Result.andThen])
   with_reducible rfl
  rotate_left
  ·simp only [Act.put, List.setIfInBounds_toArray, List.set_cons_zero, List.set_cons_succ, i64_w, i32_w]
   rfl
  refine one_ (i := 5) (N := some 25) #[true, true, true, true, true, true, true, true, true, false, false] rfl rfl (one_of HT_.out (by kernel_rfl)) (by decide) (fun K hK => ?_)
  refine goes_ Tryz.func70 (by kernel_rfl) rfl #[.agg #[.slice A0_0 l0_0.length c0_0], .int .i64 (rd x5_1 0)] (by rfl) rfl rfl aR_ ?_
  with_reducible refine (spec_prPlace.calls k1 _ _ l0_0 (rd x5_1 0) t331 _ ?side1 ?side2 A12.out).mono ?_
  (case side1 => exact cB_ HR0_0 HB)
  (case side2 => exact HC0_0.out)
  rintro e w20 ⟨rfl, hb⟩
  have HS1_ := (hb.cell (World.block_lt_of_cell? _ _ (hHeld.2.1))).trans (hHeld.2.1)
  have HS2_ := (hb.cell (World.block_lt_of_cell? _ _ (hHeld.2.2))).trans (hHeld.2.2)
  refine ⟨_, rfl, ?_⟩
  replace HO_3 := aS_ (Kd.R_below (rr_ HO_3) hb)
  replace HO_4 := aS_ (Kd.R_below (rr_ HO_4) hb)
  replace HO_5 := aS_ (Kd.R_below (rr_ HO_5) hb)
  replace BK323 := kO_ BK323 hb
  replace HB := bE_ HB hb
  (try clear hb)
  have p15 : 0 ≤ (t331 : Int) := of_decide_eq_true (by assumption)
  have q15 : (t331 : Int) < ((x3_1.length : Int) : Int) := of_decide_eq_true (by assumption)
  obtain ⟨go15, co15, eo15, gb15, gl15, cl15, HG15⟩ := Kd.R_form HO_3.out (by omega)
  (first | cases eo15 | (injection eo15 with ea_ en_ ec_; (first | subst ea_ | (injection ea_ with ea_; subst ea_)); subst ec_; clear en_))
  have GB15 := aS_ gb15
  have GG15 := aS_ HG15
  clear gb15 gl15 HG15
  obtain ⟨hx15_0, hf15_0⟩ := Kd.R_celln 0 HO_3.out (t331 : Int) p15 q15
  replace p15 := eq_true p15
  replace q15 := eq_true q15
  have HP21 := Kd.R_putn HO_3.out (t331 : Int) (rd x5_1 0)
  rw [← Ny333.out] at HP21
  have HQ21 := aS_ HP21
  clear HP21
  refine hK.out _ _ ⟨(blk_cell BK323.out 0).trans rfl, HS1_, HS2_⟩ (fun hHeld => ?_)
  clear hK K
  refine norm_ (a' := ?_) ?_ ?_
  rotate_left
  ·show Act.put _ (some 25) _ = _
   simp only [Act.put, List.setIfInBounds_toArray, List.set_cons_zero, List.set_cons_succ, i64_w, i32_w]
   rfl
  refine pure_ (i := 9) (N := some 29) (v := ?_) (a' := ?_) #[true, true, true, true, true, true, true, true, true, true, false] rfl rfl (any_of HT_.out (by kernel_rfl)) (fun _ _ _ h => h) (Or.inl ⟨by rfl, ?_⟩) ?_ ?_
  rotate_left
  ·intro w'
   go_simp
   (try simp only [fld_13, Result.andThen])
   with_reducible rfl
  rotate_left
  ·simp only [Act.put, List.setIfInBounds_toArray, List.set_cons_zero, List.set_cons_succ, i64_w, i32_w]
   rfl
  refine last_ (i := 10) (N := none) #[true, true, true, true, true, true, true, true, true, true, true] rfl rfl (one_of HT_.out (by kernel_rfl)) (by decide) (fun K hK => ?_)
  refine skip_ (w1 := ?_) (by rfl) rfl ?_ ?_
  rotate_left
  ·go_simp
   rfl
  refine hK.out _ _ ?_
  clear hK K
  refine done_ (done_of HT_.out (by kernel_rfl)) ?_
  have p334 : 0 ≤ (0 : Int) := (by omega)
  have q334 : 0 < (x5_1.length : Int) := of_decide_eq_true (by assumption)
  obtain ⟨ad334, e334, hx334_0⟩ := Kd.at_int (Kd.R_reads' HO_5.out).2.2 0 p334 q334
  obtain rfl : ad330 = ad334 := (by injection e334)
  have qi334 : (0 < x5_1.length) = True := eq_true (by omega)
  (try rw [show ((0 : Int)).toNat = 0 from rfl] at hx334_0)
  (try rw [Addr.add_zero'] at hx334_0)
  have hn334_0 : ad330.block ≠ go15 := (by have h_ := HO_5.out.1 _ rfl; intro e_; revert h_; simp only [Value.ownBlock, add_block] at *; grind)
  replace hx334_0 := (cell_far (p := ⟨go15, (t331 : Int).toNat, none⟩) (by first | (rw [add_block]; exact hn334_0) | (show (Addr.add _ _).block ≠ _; rw [add_block]; exact hn334_0) | exact hn334_0) (.int .i64 (rd x5_1 0))).trans hx334_0
  clear hn334_0
  replace p334 := eq_true p334
  replace q334 := eq_true q334
  try go_wp2_with (first | ((with_reducible refine gate_builtin (b := .append) (xs := #[.tmp 30, .tmp 34]) rfl ?_); at_builtin; refine Kd.R_append (Kd.int .i64) (w0 := w) w.heap.size rfl (.tmp 30) (.tmp 34) 24 3 (.int .i64 0) 8 rfl Tryz.underlying24 info3 rfl (by decide) (by omega) u4 x4_1 (rd x5_1 0) [.int .i64 (rd x5_1 0)] (fun k_ => some k_ ≠ (.slice (some ⟨go15, 0, none⟩) x3_1.length co8 : Value).ownBlock ∧ some k_ ≠ (.slice (some ad330) x5_1.length co18 : Value).ownBlock) (fun _ => False) rfl (by first | (go_simp; done) | (go_simp; rfl)) ?aP (fun _ hk => hk.elim) ?aF ?aO ?aB ?aS ?aL ?_; (case aP => exact rfl); (case aB => exact (bb_ HB)); (case aF => exact (fun k_ hk => ⟨Kd.fresh' (Kd.R_lt (rr_ HQ21)) k_ hk, Kd.fresh' (Kd.R_lt (by (with_reducible repeat (first | apply rA_ | apply rN_ | apply rD_)); exact (Kd.R_mono (Kd.R_far (p := ⟨go15, (t331 : Int).toNat, none⟩) (Kd.R_mono HO_5.out (fun k_ hk => (⟨hk, fun e_ => hk.1 (by rw [e_]; rfl)⟩ : _ ∧ k_ ≠ go15))) (fun _ hk => hk.2) (.int .i64 (rd x5_1 0))) (fun _ h_ => h_.1)))) k_ hk⟩)); (case aO => exact (by (with_reducible repeat (first | apply rA_ | apply rN_ | apply rD_)); exact Kd.R_mono (Kd.R_far (p := ⟨go15, (t331 : Int).toNat, none⟩) (Kd.R_mono HO_4.out (fun k_ hk => (⟨hk, fun e_ => hk.1 (by rw [e_]; rfl)⟩ : _ ∧ k_ ≠ go15))) (fun _ hk => hk.2) (.int .i64 (rd x5_1 0))) (fun _ hk => ⟨hk.1.1, hk.1.2⟩))); (case aS => exact (below_size (bb_ HB))); (case aL => have := LMc16.out; omega); intro v336 w22 ho hb hg hat; rw [← Ny335.out] at ho; replace HO_5 := aS_ (Kd.R_after (ok := (fun k_ => some k_ ≠ (.slice (some ⟨go15, 0, none⟩) x3_1.length co8 : Value).ownBlock)) (by (with_reducible repeat (first | apply rA_ | apply rN_ | apply rD_)); exact Kd.R_mono (Kd.R_far (p := ⟨go15, (t331 : Int).toNat, none⟩) (Kd.R_mono HO_5.out (fun k_ hk => (⟨hk, fun e_ => hk.1 (by rw [e_]; rfl)⟩ : _ ∧ k_ ≠ go15))) (fun _ hk => hk.2) (.int .i64 (rd x5_1 0))) (fun _ hk => ⟨hk.1.1, hk.1.2⟩)) hg hat); replace BK323 := aS_ (blk_grown (g := gb323) (o := .cells #[.slice A0_0 l0_0.length c0_0] 26 (0, 0)) (by (with_reducible repeat (first | refine kN_ ?_ _ | refine kD_ ?_ | refine kA_ ?_ _)); refine blk_far ?_ (by have h_ := Kd.R_ne HO_3.out BK323.out (by decide); intro e_; exact h_ (by rw [e_]; rfl)) _; (with_reducible repeat (first | refine kN_ ?_ _ | refine kD_ ?_ | refine kA_ ?_ _)); exact BK323.out) hg (Kd.R_ne HO_4.out BK323.out (by decide))); replace HO_3 := aS_ (Kd.R_after (ok := (fun k_ => some k_ ≠ (.slice (some ad330) x5_1.length co18 : Value).ownBlock)) (by (with_reducible repeat (first | apply rA_ | apply rN_ | apply rD_)); exact Kd.R_mono HQ21.out (fun _ hk => ⟨hk.2, hk.1⟩)) hg hat); replace HB := aS_ (hb); have HO337 := aS_ (ho); clear HO_4; clear ho hb hg hat; obtain ⟨hcz23_0, hfz23_0⟩ := c10_ BK323) | ((with_reducible refine gate_callee (f := 69) rfl ?_); refine goesL_ (some 19) rfl rfl Tryz.func69 (by kernel_rfl) rfl #[.agg #[.slice A0_0 l0_0.length c0_0], .slice (some ⟨go15, 0, none⟩) y333.length co8] rfl (by (try simp only [List.map_toArray, List.map_cons, List.map_nil]); first | done | (rw [show y333.length = x3_1.length from (Kd.R_reads' HO_3.out).1.symm] <;> rfl) | rfl | (simp only [List.length_drop, List.length_take]; rfl)) ?_; (with_reducible refine (spec_prReady.calls k1 _ _ l0_0 _ _ y333 t338 _ ?side1 ?side2 ?side3 ?side4 A17.out).mono ?_); (case side1 => exact cB_ HR0_0 HB); (case side2 => exact HC0_0.out); (case side3 => exact cR_ HO_3); (case side4 => rw [show y333.length = x3_1.length from (Kd.R_reads' HO_3.out).1.symm]; exact (Kd.R_reads' HO_3.out).2.1); rintro e w24 ⟨v339, rfl, ho0, hb⟩; refine ⟨_, rfl, ?_⟩; have HO340 := aS_ (Kd.R_lower (Kd.R_new' (Kd.R_new' (Kd.R_new' ho0 (Kd.R_lt (rr_ HO_3))) (Kd.R_lt (rr_ HO_5))) (Kd.R_lt (rr_ HO337))) (below_size (bb_ HB))); replace HO_3 := aS_ (Kd.R_elder' (rr_ HO_3) (Kd.R_base ho0) hb); replace HO_5 := aS_ (Kd.R_elder' (rr_ HO_5) (Kd.R_base ho0) hb); replace HO337 := aS_ (Kd.R_elder' (rr_ HO337) (Kd.R_base ho0) hb); replace BK323 := kO_ BK323 hb; replace HB := bE_ HB hb; (try clear hb); (try clear ho0)))
  (try simp only [← hl3_1])
  go_roundg k1
  case measure => have := HK1.out; omega
  case rel => exact ⟨(y333), (y335), (t338), H', ⟨by have := HK1.out; omega⟩, ⟨by (try simp only [hl3_1]); (with_reducible repeat (first | apply rA_ | apply rN_ | apply rD_)); exact Kd.R_mono HO_3.out (fun _ hk => ⟨hk.1.2, hk.2⟩)⟩, ⟨by (try simp only [hl3_1]); (with_reducible repeat (first | apply rA_ | apply rN_ | apply rD_)); exact Kd.R_mono HO337.out (fun _ hk => ⟨hk.1.1, hk.2⟩)⟩, ⟨by (try simp only [hl3_1]); (with_reducible repeat (first | apply rA_ | apply rN_ | apply rD_)); exact Kd.R_mono HO340.out (fun _ hk => ⟨hk.1.1.2, hk.2⟩)⟩, ⟨by (try simp only [hl3_1]); (with_reducible repeat (first | refine kN_ ?_ _ | refine kD_ ?_ | refine kA_ ?_ _)); exact BK323.out⟩, ⟨bb_ HB⟩⟩
 rw [if_neg c10] at H
 have c10b0 : decide (0 < (x5_1.length : Int)) = false := decide_eq_false c10
 (try rw [hl3_1] at c10b0)
 have c10b1 : decide (0 < x5_1.length) = false := decide_eq_false (by omega)
 clear c10
 obtain rfl := Option.some.inj H
 obtain ⟨Ao25, co25, eo25⟩ := Kd.R_slice HO_5.out
 subst eo25
 go_wp2
 go_ret
 exact ⟨_, by first | rfl | (simp [errW_none, errW_some] <;> rfl) | (simp [*, errW_none, errW_some] <;> rfl), by (with_reducible repeat (first | apply rA_ | apply rN_ | apply rD_)); exact Kd.R_mono HO_4.out (fun _ hk => trivial), bb_ HB⟩
/-! ### spec_FirstInsertion: function 7 -/
def spec_FirstInsertion.f (k : Nat) (l0_0 : List Int) : Option (List Int × Bool) := (spec_prGood.f k l0_0).bind fun t342 => (if t342 = true then ((spec_prFirst.f k l0_0).bind fun t343 => (some (t343, true))) else (some (([] : List Int), false)))
theorem spec_FirstInsertion.mono : ∀ a0 k, LeO (spec_FirstInsertion.f k a0) (spec_FirstInsertion.f (k + 1) a0) := by
 intro a0 k
 unfold spec_FirstInsertion.f
 exact mo2_ spec_prFirst.mono spec_prGood.mono
set_option maxHeartbeats 8000000 in
set_option maxRecDepth 100000 in
theorem spec_FirstInsertion.calls (k : Nat) (A0_0 : Option Addr) (c0_0 : Nat) (l0_0 : List Int) (r1 : List Int) (r2 : Bool) (w : World) (hr0_0 : Kd.C (Kd.int .i64) w A0_0 l0_0.length l0_0) (hc0_0 : l0_0.length ≤ c0_0) (h : spec_FirstInsertion.f k l0_0 = some (r1, r2)) :
  Calls Tryz.prog 7 #[.agg #[.slice A0_0 l0_0.length c0_0]] w fun e w' => ∃ v0_ : Value, e = .returned (.tuple #[v0_, .bool r2]) ∧ Kd.R (Kd.int .i64) 3 w' w.heap.size (fun _ => True) v0_ r1 ∧ Below w.heap.size w w' := by
 have hu26 := Tryz.underlying26
 have HR0_0 := aS_ hr0_0
 have HC0_0 := aS_ hc0_0
 clear hr0_0 hc0_0
 have HB := aS_ (Below.refl w.heap.size w)
 have H : ((spec_prGood.f k l0_0).bind fun t342 => (if t342 = true then ((spec_prFirst.f k l0_0).bind fun t343 => (some (t343, true))) else (some (([] : List Int), false)))) = some (r1, r2) := h
 clear h
 replace H := bs_ H; obtain ⟨t342, A2, H⟩ := H
 replace H := it_ H; rcases H with ⟨rfl, H⟩ | ⟨rfl, H⟩
 ·replace H := bs_ H; obtain ⟨t343, A4, H⟩ := H
  simp only [Option.some.injEq, Prod.mk.injEq] at H
  obtain ⟨rfl, rfl⟩ := H
  go_enter Tryz.func7, Tryz.ntmps7
  go_wp2_with (first | ((with_reducible refine gg_ ?_); refine bx_ 1 #[.slice A0_0 l0_0.length c0_0] 26 ?_; intro gb341 hg w5 hbox hb; have BK341 := aS_ (hbox); have GW341 := gE_ HB hg; have GE341 := gE_ HB hg; replace HB := bE_ HB hb; clear hb hbox hg; obtain ⟨hcz6_0, hfz6_0⟩ := c10_ BK341) | ((with_reducible refine gg_ ?_); refine gc_ 30 (some 5) Tryz.func30 #[.agg #[.slice A0_0 l0_0.length c0_0]] ?_; (with_reducible refine (spec_prGood.calls k _ _ l0_0 true _ ?side1 ?side2 A2.out).mono ?_); (case side1 => exact cB_ HR0_0 HB); (case side2 => exact HC0_0.out); rintro e w7 ⟨rfl, hb⟩; refine ⟨_, rfl, ?_⟩; replace BK341 := kO_ BK341 hb; replace HB := bE_ HB hb; (try clear hb); obtain ⟨hcz8_0, hfz8_0⟩ := c10_ BK341) | ((with_reducible refine gg_ ?_); refine gc_ 31 (some 8) Tryz.func31 #[.agg #[.slice A0_0 l0_0.length c0_0]] ?_; (with_reducible refine (spec_prFirst.calls k _ _ l0_0 t343 _ ?side1 ?side2 A4.out).mono ?_); (case side1 => exact cB_ HR0_0 HB); (case side2 => exact HC0_0.out); rintro e w9 ⟨v344, rfl, ho0, hb⟩; refine ⟨_, rfl, ?_⟩; have HO345 := aS_ (Kd.R_lower ho0 (below_size (bb_ HB))); replace BK341 := kO_ BK341 hb; replace HB := bE_ HB hb; (try clear hb); (try clear ho0)))
  go_ret2
  exact ⟨_, by first | rfl | (simp [errW_none, errW_some] <;> rfl) | (simp [*, errW_none, errW_some] <;> rfl), rr_ HO345, bb_ HB⟩
 simp only [Option.some.injEq, Prod.mk.injEq] at H
 obtain ⟨rfl, rfl⟩ := H
 go_enter Tryz.func7, Tryz.ntmps7
 go_wp2_with (first | ((with_reducible refine gg_ ?_); refine bx_ 1 #[.slice A0_0 l0_0.length c0_0] 26 ?_; intro gb341 hg w10 hbox hb; have BK341 := aS_ (hbox); have GW341 := gE_ HB hg; have GE341 := gE_ HB hg; replace HB := bE_ HB hb; clear hb hbox hg; obtain ⟨hcz11_0, hfz11_0⟩ := c10_ BK341) | ((with_reducible refine gg_ ?_); refine gc_ 30 (some 5) Tryz.func30 #[.agg #[.slice A0_0 l0_0.length c0_0]] ?_; (with_reducible refine (spec_prGood.calls k _ _ l0_0 false _ ?side1 ?side2 A2.out).mono ?_); (case side1 => exact cB_ HR0_0 HB); (case side2 => exact HC0_0.out); rintro e w12 ⟨rfl, hb⟩; refine ⟨_, rfl, ?_⟩; replace BK341 := kO_ BK341 hb; replace HB := bE_ HB hb; (try clear hb)))
 go_ret2
 exact ⟨_, by first | rfl | (simp [errW_none, errW_some] <;> rfl) | (simp [*, errW_none, errW_some] <;> rfl), by first | exact Kd.R_nil _ _ _ _ _ | exact Kd.N_nil _ _ _ _ _ | exact Kd.V_nil _ _ _ _ _ | exact Kd.Q_nil _ _ _ _ _ | exact Kd.S_nil _ _ _ _ _, bb_ HB⟩
/-! ### spec_prMany: function 34 -/
def spec_prMany.l0 : Nat → Int → List Int → Int → Int → Option (Int)
 | 0, _, _, _, _ => none
 | k + 1, x3, x7, x8, x9 => if x9 < x8 then (if 0 ≤ x9 then (if x9 < (x7.length : Int) then (if (rd x7 x9) = (-1) then (spec_prMany.l0 k x3 x7 x8 (wrap64 (x9 + 1))) else (spec_prMany.l0 k (wrap64 (x3 + 1)) x7 x8 (wrap64 (x9 + 1)))) else (none)) else (none)) else (some x3)
def spec_prMany.f (k : Nat) (l0_0 : List Int) : Option (Int) := spec_prMany.l0 k 0 l0_0 (l0_0.length : Int) 0
theorem spec_prMany.mono_l : ∀ k, (∀ y0 y1 y2 y3, LeO (spec_prMany.l0 k y0 y1 y2 y3) (spec_prMany.l0 (k + 1) y0 y1 y2 y3))
 | 0 => fun _ _ _ _ r h => by simp [spec_prMany.l0] at h
 | k + 1 => by
  have ih0 := spec_prMany.mono_l k
  intro y0 y1 y2 y3
  unfold spec_prMany.l0
  exact mo1_ ih0
theorem spec_prMany.mono : ∀ a0 k, LeO (spec_prMany.f k a0) (spec_prMany.f (k + 1) a0) := by
 intro a0 k
 have ih0 := spec_prMany.mono_l k
 unfold spec_prMany.f
 exact mo1_ ih0
set_option maxHeartbeats 8000000 in
set_option maxRecDepth 100000 in
theorem spec_prMany.calls (k : Nat) (A0_0 : Option Addr) (c0_0 : Nat) (l0_0 : List Int) (r : Int) (w : World) (hr0_0 : Kd.C (Kd.int .i64) w A0_0 l0_0.length l0_0) (hc0_0 : l0_0.length ≤ c0_0) (h : spec_prMany.f k l0_0 = some r) :
  Calls Tryz.prog 34 #[.agg #[.slice A0_0 l0_0.length c0_0]] w fun e w' => e = .returned (.int .i64 r) ∧ Below w.heap.size w w' := by
 have hu26 := Tryz.underlying26
 have HR0_0 := aS_ hr0_0
 have HC0_0 := aS_ hc0_0
 clear hr0_0 hc0_0
 have HB := aS_ (Below.refl w.heap.size w)
 have H : (spec_prMany.l0 k 0 l0_0 (l0_0.length : Int) 0) = some r := h
 clear h
 have H' := aS_ H
 clear H
 go_enter Tryz.func34, Tryz.ntmps34
 go_wp2_with (first | ((with_reducible refine gg_ ?_); refine bx_ 1 #[.slice A0_0 l0_0.length c0_0] 26 ?_; intro gb346 hg w2 hbox hb; have BK346 := aS_ (hbox); have GW346 := gE_ HB hg; have GE346 := gE_ HB hg; replace HB := bE_ HB hb; clear hb hbox hg; obtain ⟨hcz3_0, hfz3_0⟩ := c10_ BK346))
 go_loopg [3, 9] k (fun kq v3 v9 w' => ∃ (x3_1 : Int) (x9_1 : Int), v3 = .int .i64 x3_1 ∧ v9 = .int .i64 x9_1 ∧ Aside0 (spec_prMany.l0 kq x3_1 l0_0 (l0_0.length : Int) x9_1 = some r) ∧ Aside0 (kq ≤ k) ∧ Aside0 (w'.heap[gb346]? = some (.cells #[(.slice A0_0 l0_0.length c0_0)] 26 (0, 0))) ∧ Aside0 (Below w.heap.size w w'))
 case atStart => exact ⟨(0), (0), sR_, sR_, H', ⟨Nat.le_refl _⟩, ⟨kk_ BK346⟩, ⟨bb_ HB⟩⟩
 case round =>
 clear H'
 try clear hcz3_0
 try clear hfz3_0
 obtain ⟨x3_1, x9_1, rfl, rfl, HA, HK1, BK346, HB⟩ := hrel
 cases gk with
 | zero => exact absurd HA.out (by simp [spec_prMany.l0])
 | succ k1 =>
 have H := HA.out
 clear HA
 simp only [spec_prMany.l0] at H
 replace H := id_ H; rcases H with ⟨c4b0, H⟩ | ⟨c4b0, H⟩
 ·replace H := jd_ H; obtain ⟨c5b0, H⟩ := H
  replace H := jd_ H; obtain ⟨c6b0, H⟩ := H
  replace H := iq_ H; rcases H with ⟨c7b0, c7b1, H⟩ | ⟨c7b0, c7b1, c7, H⟩
  ·have H' := aS_ H
   clear H
   have p347 : 0 ≤ (x9_1 : Int) := of_decide_eq_true (by assumption)
   have q347 : x9_1 < (l0_0.length : Int) := of_decide_eq_true (by assumption)
   obtain ⟨ad347, e347, hx347_0⟩ := Kd.at_int HR0_0.out x9_1 p347 q347
   cases e347
   replace hx347_0 := (HB.out.cell (World.block_lt_of_cell? w _ hx347_0)).trans hx347_0
   replace p347 := eq_true p347
   replace q347 := eq_true q347
   go_wp2
   go_roundg k1
   case measure => have := HK1.out; omega
   case rel => exact ⟨(x3_1), (wrap64 (x9_1 + 1)), sR_, sR_, H', ⟨by have := HK1.out; omega⟩, ⟨kk_ BK346⟩, ⟨bb_ HB⟩⟩
  have H' := aS_ H
  clear H
  have p347 : 0 ≤ (x9_1 : Int) := of_decide_eq_true (by assumption)
  have q347 : x9_1 < (l0_0.length : Int) := of_decide_eq_true (by assumption)
  obtain ⟨ad347, e347, hx347_0⟩ := Kd.at_int HR0_0.out x9_1 p347 q347
  cases e347
  replace hx347_0 := (HB.out.cell (World.block_lt_of_cell? w _ hx347_0)).trans hx347_0
  replace p347 := eq_true p347
  replace q347 := eq_true q347
  go_wp2
  go_roundg k1
  case measure => have := HK1.out; omega
  case rel => exact ⟨(wrap64 (x3_1 + 1)), (wrap64 (x9_1 + 1)), sR_, sR_, H', ⟨by have := HK1.out; omega⟩, ⟨kk_ BK346⟩, ⟨bb_ HB⟩⟩
 obtain rfl := Option.some.inj H
 go_wp2
 go_ret
 exact ⟨eR_, bb_ HB⟩
/-! ### spec_l1Own: function 74 -/
def spec_l1Own.f (l0 : List Int) : Option (List Int) := (some (([] : List Int) : List Int)).bind fun y348 => (if y348.length + l0.length < 17592186044416 then (some (y348 ++ l0)) else (none))
set_option maxHeartbeats 8000000 in
set_option maxRecDepth 100000 in
theorem spec_l1Own.calls (A0 : Option Addr) (c0 : Nat) (l0 : List Int) (r : List Int) (w : World) (hr0 : Kd.C (Kd.int .i64) w A0 l0.length l0) (hc0 : l0.length ≤ c0) (h : spec_l1Own.f l0 = some r) :
  Calls Tryz.prog 74 #[.slice A0 l0.length c0] w fun e w' => ∃ v0_ : Value, e = .returned (v0_) ∧ Kd.R (Kd.int .i64) 3 w' w.heap.size (fun _ => True) v0_ r ∧ Below w.heap.size w w' := by
 have HR0 := aS_ hr0
 have HC0 := aS_ hc0
 clear hr0 hc0
 have HB := aS_ (Below.refl w.heap.size w)
 have H : ((some (([] : List Int) : List Int)).bind fun y348 => (if y348.length + l0.length < 17592186044416 then (some (y348 ++ l0)) else (none))) = some r := h
 clear h
 obtain ⟨y348, hy348⟩ : ∃ y_ : List Int, y_ = (([] : List Int)) := ⟨_, rfl⟩
 replace H : (if y348.length + l0.length < 17592186044416 then (some (y348 ++ l0)) else (none)) = some r := yH_ hy348 H
 have Ny348 := aS_ hy348
 clear hy348
 replace H := jp_ H; obtain ⟨c2, H⟩ := H
 have LMc2 := aS_ c2
 clear c2
 obtain ⟨y351, hy351⟩ : ∃ y_ : List Int, y_ = (y348 ++ l0) := ⟨_, rfl⟩
 replace H : (some y351) = some r := yH_ hy351 H
 have Ny351 := aS_ hy351
 clear hy351
 obtain rfl := Option.some.inj H
 go_enter Tryz.func74, Tryz.ntmps74
 go_wp2_with (first | ((with_reducible refine gate_dst (N := 3) rfl ?_); refine Kd.R_lit (Kd.int .i64) _ 3 ?hg (N := 3) ?hd (xs := ([] : List Int)) (inner := []) (ok := fun _ => True) (okp := fun _ => True) ?hr ?hp (fun _ hk => hk) trivial (Below.refl _ _) (Nat.le_refl _) (by simp) ?_; (case hd => rfl); (case hg => rfl); (case hr => first | (go_simp; done) | (go_simp; rfl)); (case hp => exact (Reps.none _ _)); intro v349 w3 ho4 hb hg_ hnew_; clear hg_ hnew_; (first | rw [← Ny348.out] at ho4 | (simp only [Int.reduceToNat] at ho4; rw [← Ny348.out] at ho4)); have HO350 := aS_ (Kd.R_lower ho4 (below_size (bb_ HB))); replace HB := bE_ HB hb; clear hb ho4) | ((with_reducible refine gate_builtin (b := .append) (xs := #[.tmp 3, .tmp 4]) rfl ?_); at_builtin; refine Kd.R_append_rows (Kd.int .i64) (w0 := w) w.heap.size rfl (.tmp 3) (.tmp 4) 24 3 (.int .i64 0) 8 rfl Tryz.underlying24 info3 rfl (by decide) (by omega) v349 y348 l0 _ _ _ (fun _ => True) (fun _ => False) rfl rfl ?aO ?aR (fun _ _ h => h) (fun _ h => h.elim) ?aF ?aB ?aS ?aL ?_; (case aR => exact cB_ HR0 HB); (case aB => exact (bb_ HB)); (case aF => exact (fun _ _ => trivial)); (case aO => exact (rr_ HO350)); (case aS => exact (below_size (bb_ HB))); (case aL => have := LMc2.out; omega); intro v352 w5 ho hb hg hat; rw [← Ny351.out] at ho; replace HB := aS_ (hb); have HO353 := aS_ (ho); clear HO350; clear ho hb hg hat))
 go_ret
 exact ⟨_, by first | rfl | (simp [errW_none, errW_some] <;> rfl) | (simp [*, errW_none, errW_some] <;> rfl), rr_ HO353, bb_ HB⟩
/-! ### spec_prCount: function 35 -/
mutual
def spec_prCount.l0 : Nat → List Int → Int → List Int → Int → Int → List Int → Option (Int)
 | 0, _, _, _, _, _, _ => none
 | k + 1, x1, x6, x16, x17, x18, x355000 => if x18 < x17 then (if 0 ≤ x18 then (if x18 < (x16.length : Int) then ((spec_l1Own.f x1).bind fun t359 => ((spec_prPlace.f k x355000 (rd x16 x18)).bind fun t362 => (if 0 ≤ t362 then (if t362 < (t359.length : Int) then ((spec_prCount.f k x355000 (t359.set (t362 : Int).toNat (rd x16 x18))).bind fun t364 => (spec_prCount.l0 k x1 (wrap64 (x6 + t364)) x16 x17 (wrap64 (x18 + 1)) x355000)) else (none)) else (none)))) else (none)) else (none)) else (some x6)
def spec_prCount.f : Nat → List Int → List Int → Option (Int)
 | 0, _, _ => none
 | k + 1, l0_0, l1 => (spec_prReady.f k l0_0 l1).bind fun t355 => (if (t355.length : Int) = 0 then (some 1) else (spec_prCount.l0 k l1 0 t355 (t355.length : Int) 0 l0_0))
end
theorem spec_prCount.mono_l : ∀ k, (∀ y0 y1, LeO (spec_prCount.f k y0 y1) (spec_prCount.f (k + 1) y0 y1)) ∧ (∀ y0 y1 y2 y3 y4 y5, LeO (spec_prCount.l0 k y0 y1 y2 y3 y4 y5) (spec_prCount.l0 (k + 1) y0 y1 y2 y3 y4 y5))
 | 0 => ⟨fun _ _ r h => by simp [spec_prCount.f] at h, fun _ _ _ _ _ _ r h => by simp [spec_prCount.l0] at h⟩
 | k + 1 => by
  obtain ⟨ih0, ih1⟩ := spec_prCount.mono_l k
  refine ⟨?_, ?_⟩
  ·intro y0 y1
   unfold spec_prCount.f
   exact mo4_ ih0 ih1 spec_prPlace.mono spec_prReady.mono
  intro y0 y1 y2 y3 y4 y5
  unfold spec_prCount.l0
  exact mo4_ ih0 ih1 spec_prPlace.mono spec_prReady.mono
theorem spec_prCount.mono : ∀ a0 a1 k, LeO (spec_prCount.f k a0 a1) (spec_prCount.f (k + 1) a0 a1) := by
 intro a0 a1 k
 obtain ⟨ih0, ih1⟩ := spec_prCount.mono_l k
 exact ih0 a0 a1
set_option maxHeartbeats 8000000 in
set_option maxRecDepth 100000 in
theorem spec_prCount.calls (k : Nat) : ∀ (A0_0 : Option Addr) (c0_0 : Nat) (l0_0 : List Int) (A1 : Option Addr) (c1 : Nat) (l1 : List Int) (r : Int) (w : World) (hr0_0 : Kd.C (Kd.int .i64) w A0_0 l0_0.length l0_0) (hc0_0 : l0_0.length ≤ c0_0) (hr1 : Kd.C (Kd.int .i64) w A1 l1.length l1) (hc1 : l1.length ≤ c1) (h : spec_prCount.f k l0_0 l1 = some r),
  Calls Tryz.prog 35 #[.agg #[.slice A0_0 l0_0.length c0_0], .slice A1 l1.length c1] w fun e w' => e = .returned (.int .i64 r) ∧ Below w.heap.size w w' := by
 induction k using Nat.strongRecOn with
 | _ k ih =>
 intro A0_0 c0_0 l0_0 A1 c1 l1 r w hr0_0 hc0_0 hr1 hc1 h
 cases k with
 | zero => exact absurd h (by simp [spec_prCount.f])
 | succ k =>
 simp only [spec_prCount.f] at h
 have hu26 := Tryz.underlying26
 have HR0_0 := aS_ hr0_0
 have HC0_0 := aS_ hc0_0
 clear hr0_0 hc0_0
 have HR1 := aS_ hr1
 have HC1 := aS_ hc1
 clear hr1 hc1
 have HB := aS_ (Below.refl w.heap.size w)
 have H : ((spec_prReady.f k l0_0 l1).bind fun t355 => (if (t355.length : Int) = 0 then (some 1) else (spec_prCount.l0 k l1 0 t355 (t355.length : Int) 0 l0_0))) = some r := h
 clear h
 replace H := bs_ H; obtain ⟨t355, A3, H⟩ := H
 replace H := iq_ H; rcases H with ⟨c4b0, c4b1, H⟩ | ⟨c4b0, c4b1, c4, H⟩
 ·obtain rfl := Option.some.inj H
  go_enter Tryz.func35, Tryz.ntmps35
  go_wp2_with (first | ((with_reducible refine gg_ ?_); refine bx_ 2 #[.slice A0_0 l0_0.length c0_0] 26 ?_; intro gb354 hg w5 hbox hb; have BK354 := aS_ (hbox); have GW354 := gE_ HB hg; have GE354 := gE_ HB hg; replace HB := bE_ HB hb; clear hb hbox hg; obtain ⟨hcz6_0, hfz6_0⟩ := c10_ BK354) | ((with_reducible refine gg_ ?_); refine gc_ 69 (some 12) Tryz.func69 #[.agg #[.slice A0_0 l0_0.length c0_0], .slice A1 l1.length c1] ?_; (with_reducible refine (spec_prReady.calls k _ _ l0_0 _ _ l1 t355 _ ?side1 ?side2 ?side3 ?side4 A3.out).mono ?_); (case side1 => exact cB_ HR0_0 HB); (case side2 => exact HC0_0.out); (case side3 => exact cB_ HR1 HB); (case side4 => exact HC1.out); rintro e w7 ⟨v356, rfl, ho0, hb⟩; refine ⟨_, rfl, ?_⟩; have HO357 := aS_ (Kd.R_lower ho0 (below_size (bb_ HB))); replace BK354 := kO_ BK354 hb; replace HB := bE_ HB hb; (try clear hb); (try clear ho0); obtain ⟨Ao8, co8, eo8⟩ := Kd.R_slice HO357.out; subst eo8))
  go_ret
  exact ⟨eR_, bb_ HB⟩
 have c4b2 : ¬ (t355 = []) := fun h_ => c4 (by rw [h_]; rfl)
 have H' := aS_ H
 clear H
 go_enter Tryz.func35, Tryz.ntmps35
 go_wp2_with (first | ((with_reducible refine gg_ ?_); refine bx_ 2 #[.slice A0_0 l0_0.length c0_0] 26 ?_; intro gb354 hg w9 hbox hb; have BK354 := aS_ (hbox); have GW354 := gE_ HB hg; have GE354 := gE_ HB hg; replace HB := bE_ HB hb; clear hb hbox hg; obtain ⟨hcz10_0, hfz10_0⟩ := c10_ BK354) | ((with_reducible refine gg_ ?_); refine gc_ 69 (some 12) Tryz.func69 #[.agg #[.slice A0_0 l0_0.length c0_0], .slice A1 l1.length c1] ?_; (with_reducible refine (spec_prReady.calls k _ _ l0_0 _ _ l1 t355 _ ?side1 ?side2 ?side3 ?side4 A3.out).mono ?_); (case side1 => exact cB_ HR0_0 HB); (case side2 => exact HC0_0.out); (case side3 => exact cB_ HR1 HB); (case side4 => exact HC1.out); rintro e w11 ⟨v356, rfl, ho0, hb⟩; refine ⟨_, rfl, ?_⟩; have HO357 := aS_ (Kd.R_lower ho0 (below_size (bb_ HB))); replace BK354 := kO_ BK354 hb; replace HB := bE_ HB hb; (try clear hb); (try clear ho0); obtain ⟨Ao12, co12, eo12⟩ := Kd.R_slice HO357.out; subst eo12))
 go_loopg [6, 18] k (fun kq v6 v18 w' => ∃ (x6_1 : Int) (x16_1 : List Int) (x18_1 : Int), v6 = .int .i64 x6_1 ∧ v18 = .int .i64 x18_1 ∧ Aside0 (spec_prCount.l0 kq l1 x6_1 x16_1 (t355.length : Int) x18_1 l0_0 = some r) ∧ Aside0 (kq ≤ k) ∧ Aside0 (Kd.R (Kd.int .i64) 3 w' w.heap.size (fun _ => True) (.slice Ao12 t355.length co12) x16_1) ∧ Aside0 (w'.heap[gb354]? = some (.cells #[(.slice A0_0 l0_0.length c0_0)] 26 (0, 0))) ∧ Aside0 (Below w.heap.size w w'))
 case atStart => exact ⟨(0), (t355), (0), sR_, sR_, H', ⟨Nat.le_refl _⟩, ⟨rr_ HO357⟩, ⟨kk_ BK354⟩, ⟨bb_ HB⟩⟩
 case round =>
 clear H'
 try clear c1
 try clear c4
 try clear c4b0
 try clear c4b1
 try clear c4b2
 try clear hcz10_0
 try clear hfz10_0
 obtain ⟨x6_1, x16_1, x18_1, rfl, rfl, HA, HK1, HO_16, BK354, HB⟩ := hrel
 have hl16_1 := (Kd.R_reads' HO_16.out).1
 rw [hl16_1] at HO_16
 (try simp only [hl16_1])
 (try simp only [hl16_1] at BK354)
 cases gk with
 | zero => exact absurd HA.out (by simp [spec_prCount.l0])
 | succ k1 =>
 have H := HA.out
 clear HA
 simp only [spec_prCount.l0] at H
 by_cases c13 : x18_1 < (t355.length : Int)
 ·rw [if_pos c13] at H
  have c13b0 : decide (x18_1 < (t355.length : Int)) = true := decide_eq_true c13
  clear c13
  replace H := jd_ H; obtain ⟨c14b0, H⟩ := H
  replace H := jd_ H; obtain ⟨c15b0, H⟩ := H
  replace H := bs_ H; obtain ⟨t359, A16, H⟩ := H
  replace H := bs_ H; obtain ⟨t362, A17, H⟩ := H
  replace H := jd_ H; obtain ⟨c18b0, H⟩ := H
  replace H := jd_ H; obtain ⟨c19b0, H⟩ := H
  obtain ⟨y363, hy363⟩ : ∃ y_ : List Int, y_ = (t359.set (t362 : Int).toNat (rd x16_1 x18_1)) := ⟨_, rfl⟩
  replace H : ((spec_prCount.f k1 l0_0 y363).bind fun t364 => (spec_prCount.l0 k1 l1 (wrap64 (x6_1 + t364)) x16_1 (t355.length : Int) (wrap64 (x18_1 + 1)) l0_0)) = some r := yH_ hy363 H
  have Ny363 := aS_ hy363
  clear hy363
  replace H := bs_ H; obtain ⟨t364, A21, H⟩ := H
  have H' := aS_ H
  clear H
  have p358 : 0 ≤ (x18_1 : Int) := of_decide_eq_true (by assumption)
  have q358 : x18_1 < (x16_1.length : Int) := of_decide_eq_true (by assumption)
  obtain ⟨ad358, e358, hx358_0⟩ := Kd.at_int (Kd.R_reads' HO_16.out).2.2 x18_1 p358 q358
  cases e358
  replace p358 := eq_true p358
  replace q358 := eq_true q358
  go_wp2_with (first | ((with_reducible refine gg_ ?_); refine gc_ 74 (some 23) Tryz.func74 #[.slice A1 l1.length c1] ?_; (with_reducible refine (spec_l1Own.calls _ _ l1 t359 _ ?side1 ?side2 A16.out).mono ?_); (case side1 => exact cB_ HR1 HB); (case side2 => exact HC1.out); rintro e w22 ⟨v360, rfl, ho0, hb⟩; refine ⟨_, rfl, ?_⟩; have HO361 := aS_ (Kd.R_lower (Kd.R_new' ho0 (Kd.R_lt (rr_ HO_16))) (below_size (bb_ HB))); replace HO_16 := aS_ (Kd.R_elder' (rr_ HO_16) (Kd.R_base ho0) hb); replace BK354 := kO_ BK354 hb; replace HB := bE_ HB hb; (try clear hb); (try clear ho0); obtain ⟨hcz23_0, hfz23_0⟩ := c10_ BK354) | ((with_reducible refine gg_ ?_); refine gc_ 70 (some 27) Tryz.func70 #[.agg #[.slice A0_0 l0_0.length c0_0], .int .i64 (rd x16_1 x18_1)] ?_; (with_reducible refine (spec_prPlace.calls k1 _ _ l0_0 (rd x16_1 x18_1) t362 _ ?side1 ?side2 A17.out).mono ?_); (case side1 => exact cB_ HR0_0 HB); (case side2 => exact HC0_0.out); rintro e w24 ⟨rfl, hb⟩; refine ⟨_, rfl, ?_⟩; replace HO_16 := aS_ (Kd.R_below (rr_ HO_16) hb); replace HO361 := aS_ (Kd.R_below (rr_ HO361) hb); replace BK354 := kO_ BK354 hb; replace HB := bE_ HB hb; (try clear hb); have p20 : 0 ≤ (t362 : Int) := of_decide_eq_true (by assumption); have q20 : (t362 : Int) < ((t359.length : Int) : Int) := of_decide_eq_true (by assumption); obtain ⟨go20, co20, eo20, gb20, gl20, cl20, HG20⟩ := Kd.R_form HO361.out (by omega); (first | cases eo20 | (injection eo20 with ea_ en_ ec_; (first | subst ea_ | (injection ea_ with ea_; subst ea_)); subst ec_; clear en_)); have GB20 := aS_ gb20; have GG20 := aS_ HG20; clear gb20 gl20 HG20; obtain ⟨hx20_0, hf20_0⟩ := Kd.R_celln 0 HO361.out (t362 : Int) p20 q20; replace p20 := eq_true p20; replace q20 := eq_true q20; have n_ := aS_ (Kd.R_mono (ok' := (fun k_ => some k_ ≠ (.slice (some ad358) x16_1.length co12 : Value).ownBlock)) HO361.out (fun k_ hk => hk.2)); clear HO361; have HO361 := n_; clear n_; obtain ⟨hy25_, hz25_⟩ := Kd.R_celln 0 HO361.out (t362 : Int) (of_decide_eq_true (by assumption)) (of_decide_eq_true (by assumption)); have HP25 := Kd.R_putg HO361.out (t362 : Int) (rd x16_1 x18_1)) | ((with_reducible refine gate_store (t := 3) (p := 29) rfl ?_); refine store_event (t := 3) (p := 29) (v := ?vo_w26) (w1 := (w24.setCell ⟨go20, (t362 : Int).toNat, none⟩ (.int .i64 (rd x16_1 x18_1)))) ?hg ?ho ?hn ?hr ?_; (case ho => rfl); (case hg => rfl); (case hn => rfl); (case hr => first | (go_simp; done) | (go_simp; rfl)); intro w26 hw; have hg : w24.grownBy w26 (some go20) := (by rw [hw]; exact HP25.2); have hp_ : Kd.R (Kd.int .i64) 3 w26 w.heap.size (fun k_ => some k_ ≠ (.slice (some ad358) x16_1.length co12 : Value).ownBlock) (.slice (some ⟨go20, 0, none⟩) t359.length co20) y363 := (by rw [hw, Ny363.out]; exact HP25.1); clear HP25; replace HO_16 := aS_ (Kd.R_after (v := (.slice (some ⟨go20, 0, none⟩) t359.length co20)) (v1 := (.slice (some ⟨go20, 0, none⟩) t359.length co20)) (ok := (fun _ => True)) (rr_ HO_16) hg (.inl rfl)); replace BK354 := aS_ (blk_grown (g := gb354) (o := .cells #[.slice A0_0 l0_0.length c0_0] 26 (0, 0)) (kk_ BK354) hg (Kd.R_ne HO361.out BK354.out (by decide))); replace HO361 := aS_ (hp_); replace HB := aS_ ((by rw [hw]; exact bS_ (HB.out) GB20.out : Below w.heap.size w w26)); clear hg hw hp_; obtain ⟨hcz27_0, hfz27_0⟩ := c10_ BK354) | ((with_reducible refine gate_callee (f := 35) rfl ?_); refine goesL_ (some 33) rfl rfl Tryz.func35 (by kernel_rfl) rfl #[.agg #[.slice A0_0 l0_0.length c0_0], .slice (some ⟨go20, 0, none⟩) y363.length co20] rfl (by (try simp only [List.map_toArray, List.map_cons, List.map_nil]); first | done | (rw [show y363.length = t359.length from (Kd.R_reads' HO361.out).1.symm] <;> rfl) | rfl | (simp only [List.length_drop, List.length_take]; rfl)) ?_; (with_reducible refine (ih k1 (by have := HK1.out; omega) _ _ l0_0 _ _ y363 t364 _ ?side1 ?side2 ?side3 ?side4 A21.out).mono ?_); (case side1 => exact cB_ HR0_0 HB); (case side2 => exact HC0_0.out); (case side3 => exact cR_ HO361); (case side4 => rw [show y363.length = t359.length from (Kd.R_reads' HO361.out).1.symm]; exact (Kd.R_reads' HO361.out).2.1); rintro e w28 ⟨rfl, hb⟩; refine ⟨_, rfl, ?_⟩; replace HO_16 := aS_ (Kd.R_below (rr_ HO_16) hb); replace HO361 := aS_ (Kd.R_below (rr_ HO361) hb); replace BK354 := kO_ BK354 hb; replace HB := bE_ HB hb; (try clear hb)))
  (try simp only [← hl16_1])
  go_roundg k1
  case measure => have := HK1.out; omega
  case rel => exact ⟨(wrap64 (x6_1 + t364)), (x16_1), (wrap64 (x18_1 + 1)), sR_, sR_, H', ⟨by have := HK1.out; omega⟩, ⟨by (try simp only [hl16_1]); (with_reducible repeat (first | apply rA_ | apply rN_ | apply rD_)); exact Kd.R_mono HO_16.out (fun _ hk => trivial)⟩, ⟨by (try simp only [hl16_1]); (with_reducible repeat (first | refine kN_ ?_ _ | refine kD_ ?_ | refine kA_ ?_ _)); exact BK354.out⟩, ⟨bb_ HB⟩⟩
 rw [if_neg c13] at H
 have c13b0 : decide (x18_1 < (t355.length : Int)) = false := decide_eq_false c13
 (try rw [hl16_1] at c13b0)
 clear c13
 obtain rfl := Option.some.inj H
 go_wp2
 go_ret
 exact ⟨eR_, bb_ HB⟩

set_option maxRecDepth 100000 in
theorem fld_15 (v : Value) (w : World) : Sem.run Tryz.prog (Instr.field 26 (Value.agg #[v]) 0) w = .ok v w := by kernel_rfl
attribute [local go_sem] fld_15
/-! ### spec_CountInsertions: function 9 -/
def spec_CountInsertions.j0 : Nat → Bool → List Int → Option (Int × Bool)
 | 0, _, _ => none
 | k + 1, x11, x366000 => if x11 = true then (some (0, false)) else ((spec_prEmpty.f k (x366000.length : Int)).bind fun t368 => ((spec_prCount.f k x366000 t368).bind fun t371 => (some (t371, true))))
def spec_CountInsertions.f (k : Nat) (l0_0 : List Int) : Option (Int × Bool) := (spec_prGood.f k l0_0).bind fun t366 => (if t366 = true then ((spec_prMany.f k l0_0).bind fun t367 => (spec_CountInsertions.j0 k (decide (t367 > 7)) l0_0)) else (spec_CountInsertions.j0 k true l0_0))
theorem spec_CountInsertions.mono_l : ∀ k, (∀ y0 y1, LeO (spec_CountInsertions.j0 k y0 y1) (spec_CountInsertions.j0 (k + 1) y0 y1))
 | 0 => fun _ _ r h => by simp [spec_CountInsertions.j0] at h
 | k + 1 => by
  have ih0 := spec_CountInsertions.mono_l k
  intro y0 y1
  unfold spec_CountInsertions.j0
  exact mo5_ ih0 spec_prCount.mono spec_prEmpty.mono spec_prGood.mono spec_prMany.mono
theorem spec_CountInsertions.mono : ∀ a0 k, LeO (spec_CountInsertions.f k a0) (spec_CountInsertions.f (k + 1) a0) := by
 intro a0 k
 have ih0 := spec_CountInsertions.mono_l k
 unfold spec_CountInsertions.f
 exact mo5_ ih0 spec_prCount.mono spec_prEmpty.mono spec_prGood.mono spec_prMany.mono
def spec_CountInsertions.T3 : Bool × List (List Nat × List Nat) := (true, [([], []), ([], []), ([1], [1]), ([2], [2]), ([3], [3]), ([4], [4]), ([0, 5, 4], [0, 5]), ([6, 6, 0, 1, 2, 3, 4, 5, 6], [6]), ([7, 0, 1, 2, 3, 4, 5, 6, 7], [])])
def spec_CountInsertions.B3 : List Nat := [0, 0, 2, 6, 14, 30, 63, 127, 255]
theorem spec_CountInsertions.tab3 : rtab .any (opsOf Tryz.f9 3) = spec_CountInsertions.T3 := by kernel_rfl
theorem spec_CountInsertions.bits3 : waitsOk spec_CountInsertions.T3.2 spec_CountInsertions.B3 = true := by kernel_rfl
set_option maxHeartbeats 8000000 in
set_option maxRecDepth 100000 in
theorem spec_CountInsertions.calls (k : Nat) (A0_0 : Option Addr) (c0_0 : Nat) (l0_0 : List Int) (r1 : Int) (r2 : Bool) (w : World) (hr0_0 : Kd.C (Kd.int .i64) w A0_0 l0_0.length l0_0) (hc0_0 : l0_0.length ≤ c0_0) (h : spec_CountInsertions.f k l0_0 = some (r1, r2)) :
  Calls Tryz.prog 9 #[.agg #[.slice A0_0 l0_0.length c0_0]] w fun e w' => e = .returned (.tuple #[.int .i64 r1, .bool r2]) ∧ Below w.heap.size w w' := by
 have hu26 := Tryz.underlying26
 have HR0_0 := aS_ hr0_0
 have HC0_0 := aS_ hc0_0
 clear hr0_0 hc0_0
 have HB := aS_ (Below.refl w.heap.size w)
 have H : ((spec_prGood.f k l0_0).bind fun t366 => (if t366 = true then ((spec_prMany.f k l0_0).bind fun t367 => (spec_CountInsertions.j0 k (decide (t367 > 7)) l0_0)) else (spec_CountInsertions.j0 k true l0_0))) = some (r1, r2) := h
 clear h
 have HC2 := aS_ H
 clear H
 go_enter Tryz.func9, Tryz.ntmps9
 go_upto_region 1 with (first | ((with_reducible refine gg_ ?_); refine bx_ 1 #[.slice A0_0 l0_0.length c0_0] 26 ?_; intro gb365 hg w3 hbox hb; have BK365 := aS_ (hbox); have GW365 := gE_ HB hg; have GE365 := gE_ HB hg; replace HB := bE_ HB hb; clear hb hbox hg))
 (try simp only [Act.put, List.setIfInBounds_toArray, List.set_cons_zero, List.set_cons_succ])
 go_cut [11] (fun v11 wc => ∃ (kq : Nat) (x11_1 : Bool), v11 = .bool x11_1 ∧ Aside0 (spec_CountInsertions.j0 kq x11_1 l0_0 = some (r1, r2)) ∧ Aside0 (kq ≤ k) ∧ Aside0 (wc.heap[gb365]? = some (.cells #[(.slice A0_0 l0_0.length c0_0)] 26 (0, 0))) ∧ Aside0 (Below w.heap.size w wc))
 case first =>
  have H := HC2.out
  clear HC2
  replace H := bs_ H; obtain ⟨t366, A4, H⟩ := H
  replace H := it_ H; rcases H with ⟨rfl, H⟩ | ⟨rfl, H⟩
  ·replace H := bs_ H; obtain ⟨t367, A6, H⟩ := H
   have H' := aS_ H
   clear H
   obtain ⟨hcz7_0, hfz7_0⟩ := c10_ BK365
   go_wp2_with (first | ((with_reducible refine gg_ ?_); refine gc_ 30 (some 5) Tryz.func30 #[.agg #[.slice A0_0 l0_0.length c0_0]] ?_; (with_reducible refine (spec_prGood.calls k _ _ l0_0 true _ ?side1 ?side2 A4.out).mono ?_); (case side1 => exact cB_ HR0_0 HB); (case side2 => exact HC0_0.out); rintro e w8 ⟨rfl, hb⟩; refine ⟨_, rfl, ?_⟩; replace BK365 := kO_ BK365 hb; replace HB := bE_ HB hb; (try clear hb); obtain ⟨hcz9_0, hfz9_0⟩ := c10_ BK365) | (go_at_call 34; (with_reducible refine (spec_prMany.calls k _ _ l0_0 t367 _ ?side1 ?side2 A6.out).mono ?_); (case side1 => exact cB_ HR0_0 HB); (case side2 => exact HC0_0.out); rintro e w10 ⟨rfl, hb⟩; replace BK365 := kO_ BK365 hb; replace HB := bE_ HB hb; (try clear hb)))
   go_meet
   case rel => exact ⟨_, (decide (t367 > 7)), sR_, H', ⟨by first | omega | exact Nat.le_refl _⟩, ⟨kk_ BK365⟩, ⟨bb_ HB⟩⟩
  have H' := aS_ H
  clear H
  obtain ⟨hcz11_0, hfz11_0⟩ := c10_ BK365
  go_wp2_with (first | ((with_reducible refine gg_ ?_); refine gc_ 30 (some 5) Tryz.func30 #[.agg #[.slice A0_0 l0_0.length c0_0]] ?_; (with_reducible refine (spec_prGood.calls k _ _ l0_0 false _ ?side1 ?side2 A4.out).mono ?_); (case side1 => exact cB_ HR0_0 HB); (case side2 => exact HC0_0.out); rintro e w12 ⟨rfl, hb⟩; refine ⟨_, rfl, ?_⟩; replace BK365 := kO_ BK365 hb; replace HB := bE_ HB hb; (try clear hb)))
  go_meet
  case rel => exact ⟨_, (true), sR_, H', ⟨by first | omega | exact Nat.le_refl _⟩, ⟨kk_ BK365⟩, ⟨bb_ HB⟩⟩
 case rest =>
 clear HC2
 obtain ⟨kq, x11_1, rfl, HA, HJ1, BK365, HB⟩ := hcut
 cases kq with
 | zero => exact absurd HA.out (by simp [spec_CountInsertions.j0])
 | succ kj1 =>
 have H := HA.out
 clear HA
 simp only [spec_CountInsertions.j0] at H
 replace H := it_ H; rcases H with ⟨rfl, H⟩ | ⟨rfl, H⟩
 ·simp only [Option.some.injEq, Prod.mk.injEq] at H
  obtain ⟨rfl, rfl⟩ := H
  go_wp2
  go_ret2
  exact ⟨eR_, bb_ HB⟩
 replace H := bs_ H; obtain ⟨t368, A14, H⟩ := H
 replace H := bs_ H; obtain ⟨t371, A15, H⟩ := H
 simp only [Option.some.injEq, Prod.mk.injEq] at H
 obtain ⟨rfl, rfl⟩ := H
 try go_wp2
 replace BK365 := aS_ (kD_ BK365.out)
 replace HB := aS_ (bD_ HB.out)
 refine start_ (n := 9) (S := fun w' => w'.cell? ⟨gb365, 0, none⟩ = some (.slice A0_0 l0_0.length c0_0)) (ds := []) #[false, false, false, false, false, false, false, false, false] (by kernel_rfl) rfl rfl ((blk_cell BK365.out 0).trans rfl) (fun hHeld => ?_); refine with_tabW spec_CountInsertions.tab3 spec_CountInsertions.bits3 (fun HT_ HW_ => ?_)
 generalize wc.drew = w16 at BK365 HB hHeld ⊢
 refine pure_ (i := 1) (N := some 13) (v := ?_) (a' := ?_) #[false, true, false, false, false, false, false, false, false] rfl rfl (any_of HT_.out (by kernel_rfl)) (fun _ _ _ h => h) (Or.inl ⟨by rfl, ?_⟩) ?_ ?_
 rotate_left
 ·intro w'
  go_simp
  (try simp only [fld_15, Result.andThen])
  with_reducible rfl
 rotate_left
 ·simp only [Act.put, List.setIfInBounds_toArray, List.set_cons_zero, List.set_cons_succ, i64_w, i32_w]
  rfl
 refine take_ (i := 0) (N := some 12) (v := ?_) (a' := ?_) #[true, true, false, false, false, false, false, false, false] rfl rfl (take_ofW HT_.out HW_.out (by kernel_rfl)) (fun _ _ _ h => h) (Or.inl ⟨by rfl, ?_⟩) hHeld ?_ ?_
 rotate_left
 ·intro w' s0
  go_simp
  (try simp only [fld_15, Result.andThen])
  with_reducible rfl
 rotate_left
 ·simp only [Act.put, List.setIfInBounds_toArray, List.set_cons_zero, List.set_cons_succ, i64_w, i32_w]
  rfl
 refine take_ (i := 2) (N := some 14) (v := ?_) (a' := ?_) #[true, true, true, false, false, false, false, false, false] rfl rfl (take_ofW HT_.out HW_.out (by kernel_rfl)) (fun _ _ _ h => h) (Or.inl ⟨by rfl, ?_⟩) hHeld ?_ ?_
 rotate_left
 ·intro w' s0
  go_simp
  (try simp only [fld_15, Result.andThen])
  with_reducible rfl
 rotate_left
 ·simp only [Act.put, List.setIfInBounds_toArray, List.set_cons_zero, List.set_cons_succ, i64_w, i32_w]
  rfl
 refine pure_ (i := 3) (N := some 15) (v := ?_) (a' := ?_) #[true, true, true, true, false, false, false, false, false] rfl rfl (any_of HT_.out (by kernel_rfl)) (fun _ _ _ h => h) (Or.inl ⟨by rfl, ?_⟩) ?_ ?_
 rotate_left
 ·intro w'
  go_simp
  (try simp only [fld_15, Result.andThen])
  with_reducible rfl
 rotate_left
 ·simp only [Act.put, List.setIfInBounds_toArray, List.set_cons_zero, List.set_cons_succ, i64_w, i32_w]
  rfl
 refine one_ (i := 4) (N := some 16) #[true, true, true, true, true, false, false, false, false] rfl rfl (one_of HT_.out (by kernel_rfl)) (by decide) (fun K hK => ?_)
 refine goes_ Tryz.func36 (by kernel_rfl) rfl #[.int .i64 (l0_0.length : Int)] (by rfl) rfl rfl aR_ ?_
 with_reducible refine (spec_prEmpty.calls kj1 (l0_0.length : Int) t368 _ A14.out).mono ?_
 rintro e w17 ⟨v369, rfl, ho0, hb⟩
 refine ⟨_, rfl, ?_⟩
 have HO370 := aS_ (Kd.R_lower ho0 (below_size (bb_ HB)))
 replace BK365 := kO_ BK365 hb
 replace HB := bE_ HB hb
 (try clear hb)
 (try clear ho0)
 obtain ⟨Ao18, co18, eo18⟩ := Kd.R_slice HO370.out
 (first | subst eo18 | (injection eo18 with f1_ f2_ f3_; have f4_ := f1_.symm; have f5_ := f3_.symm; clear f1_ f2_ f3_; subst f4_; subst f5_))
 refine hK.out _ _ ((blk_cell BK365.out 0).trans rfl) (fun hHeld => ?_)
 clear hK K
 refine norm_ (a' := ?_) ?_ ?_
 rotate_left
 ·show Act.put _ (some 16) _ = _
  simp only [Act.put, List.setIfInBounds_toArray, List.set_cons_zero, List.set_cons_succ, i64_w, i32_w]
  rfl
 refine pure_ (i := 5) (N := some 17) (v := ?_) (a' := ?_) #[true, true, true, true, true, true, false, false, false] rfl rfl (any_of HT_.out (by kernel_rfl)) (fun _ _ _ h => h) (Or.inl ⟨by rfl, ?_⟩) ?_ ?_
 rotate_left
 ·intro w'
  go_simp
  (try simp only [fld_15, Result.andThen])
  with_reducible rfl
 rotate_left
 ·simp only [Act.put, List.setIfInBounds_toArray, List.set_cons_zero, List.set_cons_succ, i64_w, i32_w]
  rfl
 refine one_ (i := 6) (N := some 18) #[true, true, true, true, true, true, true, false, false] rfl rfl (one_of HT_.out (by kernel_rfl)) (by decide) (fun K hK => ?_)
 refine goes_ Tryz.func35 (by kernel_rfl) rfl #[.agg #[.slice A0_0 l0_0.length c0_0], .slice Ao18 t368.length co18] (by rfl) rfl rfl aR_ ?_
 with_reducible refine (spec_prCount.calls kj1 _ _ l0_0 _ _ t368 t371 _ ?side1 ?side2 ?side3 ?side4 A15.out).mono ?_
 (case side1 => exact cB_ HR0_0 HB)
 (case side2 => exact HC0_0.out)
 (case side3 => exact cR_ HO370)
 (case side4 => exact (Kd.R_reads' HO370.out).2.1)
 rintro e w19 ⟨rfl, hb⟩
 refine ⟨_, rfl, ?_⟩
 replace HO370 := aS_ (Kd.R_below (rr_ HO370) hb)
 replace BK365 := kO_ BK365 hb
 replace HB := bE_ HB hb
 (try clear hb)
 refine hK.out _ _ ((blk_cell BK365.out 0).trans rfl) (fun hHeld => ?_)
 clear hK K
 refine norm_ (a' := ?_) ?_ ?_
 rotate_left
 ·show Act.put _ (some 18) _ = _
  simp only [Act.put, List.setIfInBounds_toArray, List.set_cons_zero, List.set_cons_succ, i64_w, i32_w]
  rfl
 refine pure_ (i := 7) (N := some 2) (v := ?_) (a' := ?_) #[true, true, true, true, true, true, true, true, false] rfl rfl (any_of HT_.out (by kernel_rfl)) (fun _ _ _ h => h) (Or.inl ⟨by rfl, ?_⟩) ?_ ?_
 rotate_left
 ·intro w'
  go_simp
  (try simp only [fld_15, Result.andThen])
  with_reducible rfl
 rotate_left
 ·simp only [Act.put, List.setIfInBounds_toArray, List.set_cons_zero, List.set_cons_succ, i64_w, i32_w]
  rfl
 refine pure_ (i := 8) (N := some 3) (v := ?_) (a' := ?_) #[true, true, true, true, true, true, true, true, true] rfl rfl (any_of HT_.out (by kernel_rfl)) (fun _ _ _ h => h) (Or.inl ⟨by rfl, ?_⟩) ?_ ?_
 rotate_left
 ·intro w'
  go_simp
  (try simp only [fld_15, Result.andThen])
  with_reducible rfl
 rotate_left
 ·simp only [Act.put, List.setIfInBounds_toArray, List.set_cons_zero, List.set_cons_succ, i64_w, i32_w]
  rfl
 refine done_ (done_of HT_.out (by kernel_rfl)) ?_
 try go_wp2
 go_ret2
 exact ⟨eR_, bb_ HB⟩
/-! ### impl_turn: function 38 -/
def impl_turn.l0 : Nat → Int → Int → List Int → List Int → Int → Int → Option (List Int)
 | 0, _, _, _, _, _, _ => none
 | k + 1, x1, x2, x7, x11, x12, x13 => if x13 < x12 then (if 0 ≤ x13 then (if x13 < (x11.length : Int) then (if x1 = 0 then (none) else (if x7.length < 17592186044416 then (impl_turn.l0 k x1 x2 (x7 ++ [Int.tmod (wrap64 ((Int.tmod (wrap64 ((rd x11 x13) + x2)) x1) + x1)) x1]) x11 x12 (wrap64 (x13 + 1))) else (none))) else (none)) else (none)) else (some x7)
def impl_turn.f (k : Nat) (l0 : List Int) (a1 : Int) (a2 : Int) : Option (List Int) := impl_turn.l0 k a1 a2 (([] : List Int)) l0 (l0.length : Int) 0
theorem impl_turn.mono_l : ∀ k, (∀ y0 y1 y2 y3 y4 y5, LeO (impl_turn.l0 k y0 y1 y2 y3 y4 y5) (impl_turn.l0 (k + 1) y0 y1 y2 y3 y4 y5))
 | 0 => fun _ _ _ _ _ _ r h => by simp [impl_turn.l0] at h
 | k + 1 => by
  have ih0 := impl_turn.mono_l k
  intro y0 y1 y2 y3 y4 y5
  unfold impl_turn.l0
  exact mo1_ ih0
theorem impl_turn.mono : ∀ a0 a1 a2 k, LeO (impl_turn.f k a0 a1 a2) (impl_turn.f (k + 1) a0 a1 a2) := by
 intro a0 a1 a2 k
 have ih0 := impl_turn.mono_l k
 unfold impl_turn.f
 exact mo1_ ih0
set_option maxHeartbeats 8000000 in
set_option maxRecDepth 100000 in
theorem impl_turn.calls (k : Nat) (A0 : Option Addr) (c0 : Nat) (l0 : List Int) (a1 : Int) (a2 : Int) (r : List Int) (w : World) (hr0 : Kd.C (Kd.int .i64) w A0 l0.length l0) (hc0 : l0.length ≤ c0) (h : impl_turn.f k l0 a1 a2 = some r) :
  Calls Tryz.prog 38 #[.slice A0 l0.length c0, .int .i64 a1, .int .i64 a2] w fun e w' => ∃ v0_ : Value, e = .returned (v0_) ∧ Kd.R (Kd.int .i64) 3 w' w.heap.size (fun _ => True) v0_ r ∧ Below w.heap.size w w' := by
 have HR0 := aS_ hr0
 have HC0 := aS_ hc0
 clear hr0 hc0
 have HB := aS_ (Below.refl w.heap.size w)
 have H : (impl_turn.l0 k a1 a2 (([] : List Int)) l0 (l0.length : Int) 0) = some r := h
 clear h
 obtain ⟨y372, hy372⟩ : ∃ y_ : List Int, y_ = (([] : List Int)) := ⟨_, rfl⟩
 replace H : (impl_turn.l0 k a1 a2 y372 l0 (l0.length : Int) 0) = some r := yH_ hy372 H
 have Ny372 := aS_ hy372
 clear hy372
 have H' := aS_ H
 clear H
 go_enter Tryz.func38, Tryz.ntmps38
 go_wp2_with (first | ((with_reducible refine gate_dst (N := 10) rfl ?_); refine Kd.R_lit (Kd.int .i64) _ 3 ?hg (N := 10) ?hd (xs := ([] : List Int)) (inner := []) (ok := fun _ => True) (okp := fun _ => True) ?hr ?hp (fun _ hk => hk) trivial (Below.refl _ _) (Nat.le_refl _) (by simp) ?_; (case hd => rfl); (case hg => rfl); (case hr => first | (go_simp; done) | (go_simp; rfl)); (case hp => exact (Reps.none _ _)); intro v373 w4 ho5 hb hg_ hnew_; clear hg_ hnew_; (first | rw [← Ny372.out] at ho5 | (simp only [Int.reduceToNat] at ho5; rw [← Ny372.out] at ho5)); have HO374 := aS_ (Kd.R_lower ho5 (below_size (bb_ HB))); replace HB := bE_ HB hb; clear hb ho5))
 go_loopg [7, 13] k (fun kq v7 v13 w' => ∃ (x7_1 : List Int) (x13_1 : Int), v13 = .int .i64 x13_1 ∧ Aside0 (impl_turn.l0 kq a1 a2 x7_1 l0 (l0.length : Int) x13_1 = some r) ∧ Aside0 (kq ≤ k) ∧ Aside0 (Kd.R (Kd.int .i64) 3 w' w.heap.size (fun _ => True) v7 x7_1) ∧ Aside0 (Below w.heap.size w w'))
 case atStart => exact ⟨(y372), (0), sR_, H', ⟨Nat.le_refl _⟩, ⟨rr_ HO374⟩, ⟨bb_ HB⟩⟩
 case round =>
 clear H'
 obtain ⟨x7_1, x13_1, rfl, HA, HK1, HO_7, HB⟩ := hrel
 cases gk with
 | zero => exact absurd HA.out (by simp [impl_turn.l0])
 | succ k1 =>
 have H := HA.out
 clear HA
 simp only [impl_turn.l0] at H
 replace H := id_ H; rcases H with ⟨c6b0, H⟩ | ⟨c6b0, H⟩
 ·replace H := jd_ H; obtain ⟨c7b0, H⟩ := H
  replace H := jd_ H; obtain ⟨c8b0, H⟩ := H
  replace H := jn_ H; obtain ⟨c9, H⟩ := H
  have c9b0 : (a1 == 0) = false := beq_eq_false_iff_ne.mpr c9
  have c9b1 : (a1 != 0) = true := bne_iff_ne.mpr c9
  replace H := jp_ H; obtain ⟨c10, H⟩ := H
  have LMc10 := aS_ c10
  clear c10
  obtain ⟨y376, hy376⟩ : ∃ y_ : List Int, y_ = (x7_1 ++ [Int.tmod (wrap64 ((Int.tmod (wrap64 ((rd l0 x13_1) + a2)) a1) + a1)) a1]) := ⟨_, rfl⟩
  replace H : (impl_turn.l0 k1 a1 a2 y376 l0 (l0.length : Int) (wrap64 (x13_1 + 1))) = some r := yH_ hy376 H
  have Ny376 := aS_ hy376
  clear hy376
  have H' := aS_ H
  clear H
  have p375 : 0 ≤ (x13_1 : Int) := of_decide_eq_true (by assumption)
  have q375 : x13_1 < (l0.length : Int) := of_decide_eq_true (by assumption)
  obtain ⟨ad375, e375, hx375_0⟩ := Kd.at_int HR0.out x13_1 p375 q375
  cases e375
  replace hx375_0 := (HB.out.cell (World.block_lt_of_cell? w _ hx375_0)).trans hx375_0
  replace p375 := eq_true p375
  replace q375 := eq_true q375
  go_wp2_with (first | ((with_reducible refine gate_builtin (b := .append) (xs := #[.tmp 17, .tmp 27]) rfl ?_); at_builtin; refine Kd.R_append (Kd.int .i64) (w0 := w) w.heap.size rfl (.tmp 17) (.tmp 27) 24 3 (.int .i64 0) 8 rfl Tryz.underlying24 info3 rfl (by decide) (by omega) u7 x7_1 (Int.tmod (wrap64 ((Int.tmod (wrap64 ((rd l0 x13_1) + a2)) a1) + a1)) a1) [.int .i64 (Int.tmod (wrap64 ((Int.tmod (wrap64 ((rd l0 x13_1) + a2)) a1) + a1)) a1)] (fun _ => True) (fun _ => False) rfl rfl ?aP (fun _ hk => hk.elim) ?aF ?aO ?aB ?aS ?aL ?_; (case aP => exact rfl); (case aB => exact (bb_ HB)); (case aF => exact (fun _ _ => trivial)); (case aO => exact (rr_ HO_7)); (case aS => exact (below_size (bb_ HB))); (case aL => have := LMc10.out; omega); intro v377 w11 ho hb hg hat; rw [← Ny376.out] at ho; replace HB := aS_ (hb); have HO378 := aS_ (ho); clear HO_7; clear ho hb hg hat))
  go_roundg k1
  case measure => have := HK1.out; omega
  case rel => exact ⟨(y376), (wrap64 (x13_1 + 1)), sR_, H', ⟨by have := HK1.out; omega⟩, ⟨rr_ HO378⟩, ⟨bb_ HB⟩⟩
 obtain rfl := Option.some.inj H
 go_wp2
 go_ret
 exact ⟨_, by first | rfl | (simp [errW_none, errW_some] <;> rfl) | (simp [*, errW_none, errW_some] <;> rfl), rr_ HO_7, bb_ HB⟩
/-! ### impl_Table_ownCells: function 39 -/
def impl_Table_ownCells.l0 : Nat → List Int → List Int → Int → Int → List Int → Option (List Int)
 | 0, _, _, _, _, _ => none
 | k + 1, x3, x8, x9, x10, x380000 => if x10 < x9 then (if 0 ≤ x10 then (if x10 < (x8.length : Int) then (if (x380000.length : Int) = 0 then (none) else (if x3.length < 17592186044416 then (impl_Table_ownCells.l0 k (x3 ++ [Int.tmod (rd x8 x10) (x380000.length : Int)]) x8 x9 (wrap64 (x10 + 1)) x380000) else (none))) else (none)) else (none)) else (some x3)
def impl_Table_ownCells.f (k : Nat) (l0_0 : List Int) : Option (List Int) := (impl_Table_first.f l0_0).bind fun t383 => (impl_Table_ownCells.l0 k (([] : List Int)) t383 (t383.length : Int) 0 l0_0)
theorem impl_Table_ownCells.mono_l : ∀ k, (∀ y0 y1 y2 y3 y4, LeO (impl_Table_ownCells.l0 k y0 y1 y2 y3 y4) (impl_Table_ownCells.l0 (k + 1) y0 y1 y2 y3 y4))
 | 0 => fun _ _ _ _ _ r h => by simp [impl_Table_ownCells.l0] at h
 | k + 1 => by
  have ih0 := impl_Table_ownCells.mono_l k
  intro y0 y1 y2 y3 y4
  unfold impl_Table_ownCells.l0
  exact mo1_ ih0
theorem impl_Table_ownCells.mono : ∀ a0 k, LeO (impl_Table_ownCells.f k a0) (impl_Table_ownCells.f (k + 1) a0) := by
 intro a0 k
 have ih0 := impl_Table_ownCells.mono_l k
 unfold impl_Table_ownCells.f
 exact mo1_ ih0
set_option maxHeartbeats 8000000 in
set_option maxRecDepth 100000 in
theorem impl_Table_ownCells.calls (k : Nat) (A0_0 : Option Addr) (c0_0 : Nat) (l0_0 : List Int) (r : List Int) (w : World) (hr0_0 : Kd.C (Kd.int .i64) w A0_0 l0_0.length l0_0) (hc0_0 : l0_0.length ≤ c0_0) (h : impl_Table_ownCells.f k l0_0 = some r) :
  Calls Tryz.prog 39 #[.agg #[.slice A0_0 l0_0.length c0_0]] w fun e w' => ∃ v0_ : Value, e = .returned (v0_) ∧ Kd.R (Kd.int .i64) 3 w' w.heap.size (fun _ => True) v0_ r ∧ Below w.heap.size w w' := by
 have hu26 := Tryz.underlying26
 have HR0_0 := aS_ hr0_0
 have HC0_0 := aS_ hc0_0
 clear hr0_0 hc0_0
 have HB := aS_ (Below.refl w.heap.size w)
 have H : ((impl_Table_first.f l0_0).bind fun t383 => (impl_Table_ownCells.l0 k (([] : List Int)) t383 (t383.length : Int) 0 l0_0)) = some r := h
 clear h
 obtain ⟨y380, hy380⟩ : ∃ y_ : List Int, y_ = (([] : List Int)) := ⟨_, rfl⟩
 replace H : ((impl_Table_first.f l0_0).bind fun t383 => (impl_Table_ownCells.l0 k y380 t383 (t383.length : Int) 0 l0_0)) = some r := yH_ hy380 H
 have Ny380 := aS_ hy380
 clear hy380
 replace H := bs_ H; obtain ⟨t383, A2, H⟩ := H
 have H' := aS_ H
 clear H
 go_enter Tryz.func39, Tryz.ntmps39
 go_wp2_with (first | ((with_reducible refine gg_ ?_); refine bx_ 1 #[.slice A0_0 l0_0.length c0_0] 26 ?_; intro gb379 hg w3 hbox hb; have BK379 := aS_ (hbox); have GW379 := gE_ HB hg; have GE379 := gE_ HB hg; replace HB := bE_ HB hb; clear hb hbox hg) | ((with_reducible refine gate_dst (N := 6) rfl ?_); refine Kd.R_lit (Kd.int .i64) _ 3 ?hg (N := 6) ?hd (xs := ([] : List Int)) (inner := []) (ok := fun _ => True) (okp := fun _ => True) ?hr ?hp (fun _ hk => hk) trivial (Below.refl _ _) (Nat.le_refl _) (by simp) ?_; (case hd => rfl); (case hg => rfl); (case hr => first | (go_simp; done) | (go_simp; rfl)); (case hp => exact (Reps.none _ _)); intro v381 w4 ho5 hb hg_ hnew_; clear hg_ hnew_; (first | rw [← Ny380.out] at ho5 | (simp only [Int.reduceToNat] at ho5; rw [← Ny380.out] at ho5)); have HO382 := aS_ (Kd.R_lower ho5 (below_size (bb_ HB))); replace BK379 := kO_ BK379 hb; replace HB := bE_ HB hb; clear hb ho5; obtain ⟨hcz6_0, hfz6_0⟩ := c10_ BK379) | ((with_reducible refine gg_ ?_); refine gc_ 29 (some 8) Tryz.func29 #[.agg #[.slice A0_0 l0_0.length c0_0]] ?_; (with_reducible refine (impl_Table_first.calls _ _ l0_0 t383 _ ?side1 ?side2 A2.out).mono ?_); (case side1 => exact cB_ HR0_0 HB); (case side2 => exact HC0_0.out); rintro e w7 ⟨v384, rfl, ho0, hb⟩; refine ⟨_, rfl, ?_⟩; have HO385 := aS_ (Kd.R_lower (Kd.R_new' ho0 (Kd.R_lt (rr_ HO382))) (below_size (bb_ HB))); replace HO382 := aS_ (Kd.R_elder' (rr_ HO382) (Kd.R_base ho0) hb); replace BK379 := kO_ BK379 hb; replace HB := bE_ HB hb; (try clear hb); (try clear ho0); obtain ⟨Ao8, co8, eo8⟩ := Kd.R_slice HO385.out; subst eo8))
 go_loopg [3, 10] k (fun kq v3 v10 w' => ∃ (x3_1 : List Int) (x10_1 : Int), v10 = .int .i64 x10_1 ∧ Aside0 (impl_Table_ownCells.l0 kq x3_1 t383 (t383.length : Int) x10_1 l0_0 = some r) ∧ Aside0 (kq ≤ k) ∧ Aside0 (Kd.R (Kd.int .i64) 3 w' w.heap.size (fun k_ => some k_ ≠ ((.slice Ao8 t383.length co8) : Value).ownBlock) v3 x3_1) ∧ Aside0 (Kd.R (Kd.int .i64) 3 w' w.heap.size (fun k_ => some k_ ≠ (v3 : Value).ownBlock) (.slice Ao8 t383.length co8) t383) ∧ Aside0 (w'.heap[gb379]? = some (.cells #[(.slice A0_0 l0_0.length c0_0)] 26 (0, 0))) ∧ Aside0 (Below w.heap.size w w'))
 case atStart => exact ⟨(y380), (0), sR_, H', ⟨Nat.le_refl _⟩, ⟨by (with_reducible repeat (first | apply rA_ | apply rN_ | apply rD_)); exact Kd.R_mono HO382.out (fun _ hk => hk.2)⟩, ⟨by (with_reducible repeat (first | apply rA_ | apply rN_ | apply rD_)); exact Kd.R_mono HO385.out (fun _ hk => hk.2)⟩, ⟨kk_ BK379⟩, ⟨bb_ HB⟩⟩
 case round =>
 clear H'
 try clear hcz6_0
 try clear hfz6_0
 obtain ⟨x3_1, x10_1, rfl, HA, HK1, HO_3, HO_8, BK379, HB⟩ := hrel
 cases gk with
 | zero => exact absurd HA.out (by simp [impl_Table_ownCells.l0])
 | succ k1 =>
 have H := HA.out
 clear HA
 simp only [impl_Table_ownCells.l0] at H
 replace H := id_ H; rcases H with ⟨c9b0, H⟩ | ⟨c9b0, H⟩
 ·replace H := jd_ H; obtain ⟨c10b0, H⟩ := H
  replace H := jd_ H; obtain ⟨c11b0, H⟩ := H
  replace H := jn_ H; obtain ⟨c12, H⟩ := H
  have c12b0 : ((l0_0.length : Int) == 0) = false := beq_eq_false_iff_ne.mpr c12
  have c12b1 : ((l0_0.length : Int) != 0) = true := bne_iff_ne.mpr c12
  have c12b2 : ¬ (l0_0 = []) := fun h_ => c12 (by rw [h_]; rfl)
  replace H := jp_ H; obtain ⟨c13, H⟩ := H
  have LMc13 := aS_ c13
  clear c13
  obtain ⟨y387, hy387⟩ : ∃ y_ : List Int, y_ = (x3_1 ++ [Int.tmod (rd t383 x10_1) (l0_0.length : Int)]) := ⟨_, rfl⟩
  replace H : (impl_Table_ownCells.l0 k1 y387 t383 (t383.length : Int) (wrap64 (x10_1 + 1)) l0_0) = some r := yH_ hy387 H
  have Ny387 := aS_ hy387
  clear hy387
  have H' := aS_ H
  clear H
  have p386 : 0 ≤ (x10_1 : Int) := of_decide_eq_true (by assumption)
  have q386 : x10_1 < (t383.length : Int) := of_decide_eq_true (by assumption)
  obtain ⟨ad386, e386, hx386_0⟩ := Kd.at_int (Kd.R_reads' HO_8.out).2.2 x10_1 p386 q386
  cases e386
  replace p386 := eq_true p386
  replace q386 := eq_true q386
  obtain ⟨hcz14_0, hfz14_0⟩ := c10_ BK379
  go_wp2_with (first | ((with_reducible refine gate_builtin (b := .append) (xs := #[.tmp 14, .tmp 20]) rfl ?_); at_builtin; refine Kd.R_append (Kd.int .i64) (w0 := w) w.heap.size rfl (.tmp 14) (.tmp 20) 24 3 (.int .i64 0) 8 rfl Tryz.underlying24 info3 rfl (by decide) (by omega) u3 x3_1 (Int.tmod (rd t383 x10_1) (l0_0.length : Int)) [.int .i64 (Int.tmod (rd t383 x10_1) (l0_0.length : Int))] (fun k_ => some k_ ≠ (.slice (some ad386) t383.length co8 : Value).ownBlock) (fun _ => False) rfl rfl ?aP (fun _ hk => hk.elim) ?aF ?aO ?aB ?aS ?aL ?_; (case aP => exact rfl); (case aB => exact (bb_ HB)); (case aF => exact (fun k_ hk => Kd.fresh' (Kd.R_lt (rr_ HO_8)) k_ hk)); (case aO => exact (rr_ HO_3)); (case aS => exact (below_size (bb_ HB))); (case aL => have := LMc13.out; omega); intro v388 w15 ho hb hg hat; rw [← Ny387.out] at ho; replace HO_8 := aS_ (Kd.R_after (ok := (fun _ => True)) (by (with_reducible repeat (first | apply rA_ | apply rN_ | apply rD_)); exact Kd.R_mono HO_8.out (fun _ hk => ⟨trivial, hk⟩)) hg hat); replace BK379 := aS_ (blk_grown (g := gb379) (o := .cells #[.slice A0_0 l0_0.length c0_0] 26 (0, 0)) (kk_ BK379) hg (Kd.R_ne HO_3.out BK379.out (by decide))); replace HB := aS_ (hb); have HO389 := aS_ (ho); clear HO_3; clear ho hb hg hat))
  go_roundg k1
  case measure => have := HK1.out; omega
  case rel => exact ⟨(y387), (wrap64 (x10_1 + 1)), sR_, H', ⟨by have := HK1.out; omega⟩, ⟨rr_ HO389⟩, ⟨by (with_reducible repeat (first | apply rA_ | apply rN_ | apply rD_)); exact Kd.R_mono HO_8.out (fun _ hk => hk.2)⟩, ⟨kk_ BK379⟩, ⟨bb_ HB⟩⟩
 obtain rfl := Option.some.inj H
 go_wp2
 go_ret
 exact ⟨_, by first | rfl | (simp [errW_none, errW_some] <;> rfl) | (simp [*, errW_none, errW_some] <;> rfl), by (with_reducible repeat (first | apply rA_ | apply rN_ | apply rD_)); exact Kd.R_mono HO_3.out (fun _ hk => trivial), bb_ HB⟩
/-! ### impl_StreetOf: function 10 -/
mutual
def impl_StreetOf.j0 : Nat → Bool → List Int → Option (List Int × Int × Bool)
 | 0, _, _ => none
 | k + 1, x16, x391000 => if x16 = true then (some (([] : List Int), 0, false)) else (impl_StreetOf.l0 k (x391000.length : Int) (wrap64 ((x391000.length : Int) - 1)) x391000)
def impl_StreetOf.l0 : Nat → Int → Int → List Int → Option (List Int × Int × Bool)
 | 0, _, _, _ => none
 | k + 1, x5, x6, x391000 => if 0 ≤ x6 then (if x6 < (x391000.length : Int) then (if (rd x391000 x6) ≥ 0 then (impl_StreetOf.l0 k x5 (wrap64 (x6 - 1)) x391000) else ((impl_Table_ownCells.f k x391000).bind fun t397 => ((impl_turn.f k t397 x5 (wrap64 ((wrap64 (-x6)) - 1))).bind fun t400 => (some (t400, wrap64 (x5 - 1), true))))) else (none)) else (none)
end
def impl_StreetOf.f (k : Nat) (l0_0 : List Int) : Option (List Int × Int × Bool) := (impl_isTable.f k l0_0).bind fun t391 => (if t391 = true then ((impl_Table_keys.f l0_0).bind fun t392 => ((impl_between.f (t392.length : Int) 1 8).bind fun t395 => (impl_StreetOf.j0 k (!t395) l0_0))) else (impl_StreetOf.j0 k true l0_0))
theorem impl_StreetOf.mono_l : ∀ k, (∀ y0 y1, LeO (impl_StreetOf.j0 k y0 y1) (impl_StreetOf.j0 (k + 1) y0 y1)) ∧ (∀ y0 y1 y2, LeO (impl_StreetOf.l0 k y0 y1 y2) (impl_StreetOf.l0 (k + 1) y0 y1 y2))
 | 0 => ⟨fun _ _ r h => by simp [impl_StreetOf.j0] at h, fun _ _ _ r h => by simp [impl_StreetOf.l0] at h⟩
 | k + 1 => by
  obtain ⟨ih0, ih1⟩ := impl_StreetOf.mono_l k
  refine ⟨?_, ?_⟩
  ·intro y0 y1
   unfold impl_StreetOf.j0
   exact mo5_ ih0 ih1 impl_Table_ownCells.mono impl_isTable.mono impl_turn.mono
  intro y0 y1 y2
  unfold impl_StreetOf.l0
  exact mo5_ ih0 ih1 impl_Table_ownCells.mono impl_isTable.mono impl_turn.mono
theorem impl_StreetOf.mono : ∀ a0 k, LeO (impl_StreetOf.f k a0) (impl_StreetOf.f (k + 1) a0) := by
 intro a0 k
 obtain ⟨ih0, ih1⟩ := impl_StreetOf.mono_l k
 unfold impl_StreetOf.f
 exact mo5_ ih0 ih1 impl_Table_ownCells.mono impl_isTable.mono impl_turn.mono
set_option maxHeartbeats 8000000 in
set_option maxRecDepth 100000 in
theorem impl_StreetOf.calls (k : Nat) (A0_0 : Option Addr) (c0_0 : Nat) (l0_0 : List Int) (r1 : List Int) (r2 : Int) (r3 : Bool) (w : World) (hr0_0 : Kd.C (Kd.int .i64) w A0_0 l0_0.length l0_0) (hc0_0 : l0_0.length ≤ c0_0) (h : impl_StreetOf.f k l0_0 = some (r1, r2, r3)) :
  Calls Tryz.prog 10 #[.agg #[.slice A0_0 l0_0.length c0_0]] w fun e w' => ∃ v0_ : Value, e = .returned (.tuple #[v0_, .int .i64 r2, .bool r3]) ∧ Kd.R (Kd.int .i64) 3 w' w.heap.size (fun _ => True) v0_ r1 ∧ Below w.heap.size w w' := by
 have hu26 := Tryz.underlying26
 have HR0_0 := aS_ hr0_0
 have HC0_0 := aS_ hc0_0
 clear hr0_0 hc0_0
 have HB := aS_ (Below.refl w.heap.size w)
 have H : ((impl_isTable.f k l0_0).bind fun t391 => (if t391 = true then ((impl_Table_keys.f l0_0).bind fun t392 => ((impl_between.f (t392.length : Int) 1 8).bind fun t395 => (impl_StreetOf.j0 k (!t395) l0_0))) else (impl_StreetOf.j0 k true l0_0))) = some (r1, r2, r3) := h
 clear h
 have HC2 := aS_ H
 clear H
 go_enter Tryz.func10, Tryz.ntmps10
 go_upto_region 1 with (first | ((with_reducible refine gate_dst (N := 1) rfl ?_); (try (refine gate_guard (by rfl) ?_; dsimp only)); refine box_event ?hg (N := 1) ?hd (cs := #[.slice A0_0 l0_0.length c0_0]) (t := 26) ?hr ?_; (case hd => rfl); (case hg => rfl); (case hr => first | (go_simp; done) | (go_simp; rfl)); intro gb390 hg w3 hbox hb; have BK390 := aS_ (hbox); have GW390 := gE_ HB hg; have GE390 := gE_ HB hg; replace HB := bE_ HB hb; clear hb hbox hg))
 repeat (go_quiet (first | ((with_reducible refine gate_dst (N := 1) rfl ?_); (try (refine gate_guard (by rfl) ?_; dsimp only)); refine box_event ?hg (N := 1) ?hd (cs := #[.slice A0_0 l0_0.length c0_0]) (t := 26) ?hr ?_; (case hd => rfl); (case hg => rfl); (case hr => first | (go_simp; done) | (go_simp; rfl)); intro gb390 hg w3 hbox hb; have BK390 := aS_ (hbox); have GW390 := gE_ HB hg; have GE390 := gE_ HB hg; replace HB := bE_ HB hb; clear hb hbox hg)); go_upto_region 1 with (first | ((with_reducible refine gate_dst (N := 1) rfl ?_); (try (refine gate_guard (by rfl) ?_; dsimp only)); refine box_event ?hg (N := 1) ?hd (cs := #[.slice A0_0 l0_0.length c0_0]) (t := 26) ?hr ?_; (case hd => rfl); (case hg => rfl); (case hr => first | (go_simp; done) | (go_simp; rfl)); intro gb390 hg w3 hbox hb; have BK390 := aS_ (hbox); have GW390 := gE_ HB hg; have GE390 := gE_ HB hg; replace HB := bE_ HB hb; clear hb hbox hg)))
 (try simp only [Act.put, List.setIfInBounds_toArray, List.set_cons_zero, List.set_cons_succ])
 go_cut [16] (fun v16 wc => ∃ (kq : Nat) (x16_1 : Bool), v16 = .bool x16_1 ∧ Aside0 (impl_StreetOf.j0 kq x16_1 l0_0 = some (r1, r2, r3)) ∧ Aside0 (kq ≤ k) ∧ Aside0 (wc.heap[gb390]? = some (.cells #[(.slice A0_0 l0_0.length c0_0)] 26 (0, 0))) ∧ Aside0 (Below w.heap.size w wc))
 case first =>
  have H := HC2.out
  clear HC2
  replace H := bs_ H; obtain ⟨t391, A4, H⟩ := H
  replace H := it_ H; rcases H with ⟨rfl, H⟩ | ⟨rfl, H⟩
  ·replace H := bs_ H; obtain ⟨t392, A6, H⟩ := H
   replace H := bs_ H; obtain ⟨t395, A7, H⟩ := H
   have H' := aS_ H
   clear H
   obtain ⟨hcz8_0, hfz8_0⟩ := c10_ BK390
   go_wp2_with (first | (go_at_call 28; (with_reducible refine (impl_isTable.calls k _ _ l0_0 true _ ?side1 ?side2 A4.out).mono ?_); (case side1 => exact cB_ HR0_0 HB); (case side2 => exact HC0_0.out); rintro e w9 ⟨rfl, hb⟩; replace BK390 := kO_ BK390 hb; replace HB := bE_ HB hb; (try clear hb); obtain ⟨hcz10_0, hfz10_0⟩ := c10_ BK390) | (go_at_call 32; (with_reducible refine (impl_Table_keys.calls _ _ l0_0 t392 _ ?side1 ?side2 A6.out).mono ?_); (case side1 => exact cB_ HR0_0 HB); (case side2 => exact HC0_0.out); rintro e w11 ⟨v393, rfl, ho0, hb⟩; have HO394 := aS_ (Kd.R_lower ho0 (below_size (bb_ HB))); replace BK390 := kO_ BK390 hb; replace HB := bE_ HB hb; (try clear hb); (try clear ho0); obtain ⟨Ao12, co12, eo12⟩ := Kd.R_slice HO394.out; subst eo12) | (go_at_call 37; (with_reducible refine (impl_between.calls (t392.length : Int) 1 8 t395 _ A7.out).mono ?_); rintro e w' ⟨rfl, ⟨nd, rfl⟩⟩; (try exact dR_)))
   repeat (go_quiet (first | (go_at_call 28; (with_reducible refine (impl_isTable.calls k _ _ l0_0 true _ ?side1 ?side2 A4.out).mono ?_); (case side1 => exact cB_ HR0_0 HB); (case side2 => exact HC0_0.out); rintro e w9 ⟨rfl, hb⟩; replace BK390 := kO_ BK390 hb; replace HB := bE_ HB hb; (try clear hb); obtain ⟨hcz10_0, hfz10_0⟩ := c10_ BK390) | (go_at_call 32; (with_reducible refine (impl_Table_keys.calls _ _ l0_0 t392 _ ?side1 ?side2 A6.out).mono ?_); (case side1 => exact cB_ HR0_0 HB); (case side2 => exact HC0_0.out); rintro e w11 ⟨v393, rfl, ho0, hb⟩; have HO394 := aS_ (Kd.R_lower ho0 (below_size (bb_ HB))); replace BK390 := kO_ BK390 hb; replace HB := bE_ HB hb; (try clear hb); (try clear ho0); obtain ⟨Ao12, co12, eo12⟩ := Kd.R_slice HO394.out; subst eo12) | (go_at_call 37; (with_reducible refine (impl_between.calls (t392.length : Int) 1 8 t395 _ A7.out).mono ?_); rintro e w' ⟨rfl, ⟨nd, rfl⟩⟩; (try exact dR_))); try go_wp2_with (first | (go_at_call 28; (with_reducible refine (impl_isTable.calls k _ _ l0_0 true _ ?side1 ?side2 A4.out).mono ?_); (case side1 => exact cB_ HR0_0 HB); (case side2 => exact HC0_0.out); rintro e w9 ⟨rfl, hb⟩; replace BK390 := kO_ BK390 hb; replace HB := bE_ HB hb; (try clear hb); obtain ⟨hcz10_0, hfz10_0⟩ := c10_ BK390) | (go_at_call 32; (with_reducible refine (impl_Table_keys.calls _ _ l0_0 t392 _ ?side1 ?side2 A6.out).mono ?_); (case side1 => exact cB_ HR0_0 HB); (case side2 => exact HC0_0.out); rintro e w11 ⟨v393, rfl, ho0, hb⟩; have HO394 := aS_ (Kd.R_lower ho0 (below_size (bb_ HB))); replace BK390 := kO_ BK390 hb; replace HB := bE_ HB hb; (try clear hb); (try clear ho0); obtain ⟨Ao12, co12, eo12⟩ := Kd.R_slice HO394.out; subst eo12) | (go_at_call 37; (with_reducible refine (impl_between.calls (t392.length : Int) 1 8 t395 _ A7.out).mono ?_); rintro e w' ⟨rfl, ⟨nd, rfl⟩⟩; (try exact dR_))))
   go_meet
   case rel => exact ⟨_, (!t395), sR_, H', ⟨by first | omega | exact Nat.le_refl _⟩, ⟨kk_ BK390⟩, ⟨bb_ HB⟩⟩
  have H' := aS_ H
  clear H
  obtain ⟨hcz13_0, hfz13_0⟩ := c10_ BK390
  go_wp2_with (first | (go_at_call 28; (with_reducible refine (impl_isTable.calls k _ _ l0_0 false _ ?side1 ?side2 A4.out).mono ?_); (case side1 => exact cB_ HR0_0 HB); (case side2 => exact HC0_0.out); rintro e w14 ⟨rfl, hb⟩; replace BK390 := kO_ BK390 hb; replace HB := bE_ HB hb; (try clear hb)))
  repeat (go_quiet (first | (go_at_call 28; (with_reducible refine (impl_isTable.calls k _ _ l0_0 false _ ?side1 ?side2 A4.out).mono ?_); (case side1 => exact cB_ HR0_0 HB); (case side2 => exact HC0_0.out); rintro e w14 ⟨rfl, hb⟩; replace BK390 := kO_ BK390 hb; replace HB := bE_ HB hb; (try clear hb))); try go_wp2_with (first | (go_at_call 28; (with_reducible refine (impl_isTable.calls k _ _ l0_0 false _ ?side1 ?side2 A4.out).mono ?_); (case side1 => exact cB_ HR0_0 HB); (case side2 => exact HC0_0.out); rintro e w14 ⟨rfl, hb⟩; replace BK390 := kO_ BK390 hb; replace HB := bE_ HB hb; (try clear hb))))
  go_meet
  case rel => exact ⟨_, (true), sR_, H', ⟨by first | omega | exact Nat.le_refl _⟩, ⟨kk_ BK390⟩, ⟨bb_ HB⟩⟩
 case rest =>
 clear HC2
 obtain ⟨kq, x16_1, rfl, HA, HJ1, BK390, HB⟩ := hcut
 cases kq with
 | zero => exact absurd HA.out (by simp [impl_StreetOf.j0])
 | succ kj1 =>
 have H := HA.out
 clear HA
 simp only [impl_StreetOf.j0] at H
 replace H := it_ H; rcases H with ⟨rfl, H⟩ | ⟨rfl, H⟩
 ·simp only [Option.some.injEq, Prod.mk.injEq] at H
  obtain ⟨rfl, rfl, rfl⟩ := H
  go_wp2
  repeat (go_quiet (fail); try go_wp2)
  go_ret3
  exact ⟨_, by first | rfl | (simp [errW_none, errW_some] <;> rfl) | (simp [*, errW_none, errW_some] <;> rfl), by first | exact Kd.R_nil _ _ _ _ _ | exact Kd.N_nil _ _ _ _ _ | exact Kd.V_nil _ _ _ _ _ | exact Kd.Q_nil _ _ _ _ _ | exact Kd.S_nil _ _ _ _ _, bb_ HB⟩
 have H' := aS_ H
 clear H
 obtain ⟨hcz16_0, hfz16_0⟩ := c10_ BK390
 go_wp2
 repeat (go_quiet (fail); try go_wp2)
 go_loopg [6] kj1 (fun kq v6 w' => ∃ (x6_2 : Int), v6 = .int .i64 x6_2 ∧ Aside0 (impl_StreetOf.l0 kq (l0_0.length : Int) x6_2 l0_0 = some (r1, r2, r3)) ∧ Aside0 (kq ≤ kj1) ∧ Aside0 (w'.heap[gb390]? = some (.cells #[(.slice A0_0 l0_0.length c0_0)] 26 (0, 0))) ∧ Aside0 (Below w.heap.size w w'))
 case atStart => exact ⟨(wrap64 ((l0_0.length : Int) - 1)), sR_, H', ⟨Nat.le_refl _⟩, ⟨kk_ BK390⟩, ⟨bb_ HB⟩⟩
 case round =>
 clear H'
 try clear hcz16_0
 try clear hfz16_0
 obtain ⟨x6_2, rfl, HA, HK2, BK390, HB⟩ := hrel
 cases gk with
 | zero => exact absurd HA.out (by simp [impl_StreetOf.l0])
 | succ k2 =>
 have H := HA.out
 clear HA
 simp only [impl_StreetOf.l0] at H
 replace H := jd_ H; obtain ⟨c17b0, H⟩ := H
 replace H := jd_ H; obtain ⟨c18b0, H⟩ := H
 replace H := id_ H; rcases H with ⟨c19b0, H⟩ | ⟨c19b0, H⟩
 ·have H' := aS_ H
  clear H
  obtain ⟨hcz20_0, hfz20_0⟩ := c10_ BK390
  have p396 : 0 ≤ (x6_2 : Int) := of_decide_eq_true (by assumption)
  have q396 : x6_2 < (l0_0.length : Int) := of_decide_eq_true (by assumption)
  obtain ⟨ad396, e396, hx396_0⟩ := Kd.at_int HR0_0.out x6_2 p396 q396
  cases e396
  replace hx396_0 := (HB.out.cell (World.block_lt_of_cell? w _ hx396_0)).trans hx396_0
  replace p396 := eq_true p396
  replace q396 := eq_true q396
  go_wp2
  repeat (go_quiet (fail); try go_wp2)
  go_roundg k2
  case measure => have := HJ1.out; have := HK2.out; omega
  case rel => exact ⟨(wrap64 (x6_2 - 1)), sR_, H', ⟨by have := HJ1.out; have := HK2.out; omega⟩, ⟨kk_ BK390⟩, ⟨bb_ HB⟩⟩
 replace H := bs_ H; obtain ⟨t397, A21, H⟩ := H
 replace H := bs_ H; obtain ⟨t400, A22, H⟩ := H
 simp only [Option.some.injEq, Prod.mk.injEq] at H
 obtain ⟨rfl, rfl, rfl⟩ := H
 obtain ⟨hcz23_0, hfz23_0⟩ := c10_ BK390
 have p396 : 0 ≤ (x6_2 : Int) := of_decide_eq_true (by assumption)
 have q396 : x6_2 < (l0_0.length : Int) := of_decide_eq_true (by assumption)
 obtain ⟨ad396, e396, hx396_0⟩ := Kd.at_int HR0_0.out x6_2 p396 q396
 cases e396
 replace hx396_0 := (HB.out.cell (World.block_lt_of_cell? w _ hx396_0)).trans hx396_0
 replace p396 := eq_true p396
 replace q396 := eq_true q396
 go_wp2_with (first | (go_at_call 39; (with_reducible refine (impl_Table_ownCells.calls k2 _ _ l0_0 t397 _ ?side1 ?side2 A21.out).mono ?_); (case side1 => exact cB_ HR0_0 HB); (case side2 => exact HC0_0.out); rintro e w24 ⟨v398, rfl, ho0, hb⟩; have HO399 := aS_ (Kd.R_lower ho0 (below_size (bb_ HB))); replace BK390 := kO_ BK390 hb; replace HB := bE_ HB hb; (try clear hb); (try clear ho0); obtain ⟨Ao25, co25, eo25⟩ := Kd.R_slice HO399.out; subst eo25) | (go_at_call 38; (with_reducible refine (impl_turn.calls k2 _ _ t397 (l0_0.length : Int) (wrap64 ((wrap64 (-x6_2)) - 1)) t400 _ ?side1 ?side2 A22.out).mono ?_); (case side1 => exact cR_ HO399); (case side2 => exact (Kd.R_reads' HO399.out).2.1); rintro e w26 ⟨v401, rfl, ho0, hb⟩; have HO402 := aS_ (Kd.R_lower (Kd.R_new' ho0 (Kd.R_lt (rr_ HO399))) (below_size (bb_ HB))); replace HO399 := aS_ (Kd.R_elder' (rr_ HO399) (Kd.R_base ho0) hb); replace BK390 := kO_ BK390 hb; replace HB := bE_ HB hb; (try clear hb); (try clear ho0)))
 repeat (go_quiet (first | (go_at_call 39; (with_reducible refine (impl_Table_ownCells.calls k2 _ _ l0_0 t397 _ ?side1 ?side2 A21.out).mono ?_); (case side1 => exact cB_ HR0_0 HB); (case side2 => exact HC0_0.out); rintro e w24 ⟨v398, rfl, ho0, hb⟩; have HO399 := aS_ (Kd.R_lower ho0 (below_size (bb_ HB))); replace BK390 := kO_ BK390 hb; replace HB := bE_ HB hb; (try clear hb); (try clear ho0); obtain ⟨Ao25, co25, eo25⟩ := Kd.R_slice HO399.out; subst eo25) | (go_at_call 38; (with_reducible refine (impl_turn.calls k2 _ _ t397 (l0_0.length : Int) (wrap64 ((wrap64 (-x6_2)) - 1)) t400 _ ?side1 ?side2 A22.out).mono ?_); (case side1 => exact cR_ HO399); (case side2 => exact (Kd.R_reads' HO399.out).2.1); rintro e w26 ⟨v401, rfl, ho0, hb⟩; have HO402 := aS_ (Kd.R_lower (Kd.R_new' ho0 (Kd.R_lt (rr_ HO399))) (below_size (bb_ HB))); replace HO399 := aS_ (Kd.R_elder' (rr_ HO399) (Kd.R_base ho0) hb); replace BK390 := kO_ BK390 hb; replace HB := bE_ HB hb; (try clear hb); (try clear ho0))); try go_wp2_with (first | (go_at_call 39; (with_reducible refine (impl_Table_ownCells.calls k2 _ _ l0_0 t397 _ ?side1 ?side2 A21.out).mono ?_); (case side1 => exact cB_ HR0_0 HB); (case side2 => exact HC0_0.out); rintro e w24 ⟨v398, rfl, ho0, hb⟩; have HO399 := aS_ (Kd.R_lower ho0 (below_size (bb_ HB))); replace BK390 := kO_ BK390 hb; replace HB := bE_ HB hb; (try clear hb); (try clear ho0); obtain ⟨Ao25, co25, eo25⟩ := Kd.R_slice HO399.out; subst eo25) | (go_at_call 38; (with_reducible refine (impl_turn.calls k2 _ _ t397 (l0_0.length : Int) (wrap64 ((wrap64 (-x6_2)) - 1)) t400 _ ?side1 ?side2 A22.out).mono ?_); (case side1 => exact cR_ HO399); (case side2 => exact (Kd.R_reads' HO399.out).2.1); rintro e w26 ⟨v401, rfl, ho0, hb⟩; have HO402 := aS_ (Kd.R_lower (Kd.R_new' ho0 (Kd.R_lt (rr_ HO399))) (below_size (bb_ HB))); replace HO399 := aS_ (Kd.R_elder' (rr_ HO399) (Kd.R_base ho0) hb); replace BK390 := kO_ BK390 hb; replace HB := bE_ HB hb; (try clear hb); (try clear ho0))))
 go_ret3
 exact ⟨_, by first | rfl | (simp [errW_none, errW_some] <;> rfl) | (simp [*, errW_none, errW_some] <;> rfl), by (with_reducible repeat (first | apply rA_ | apply rN_ | apply rD_)); exact Kd.R_mono HO402.out (fun _ hk => trivial), bb_ HB⟩
/-! ### spec_StreetOf: function 11 -/
mutual
def spec_StreetOf.j0 : Nat → Bool → List Int → Option (List Int × Int × Bool)
 | 0, _, _ => none
 | k + 1, x20, x404000 => if x20 = true then (some (([] : List Int), 0, false)) else (spec_StreetOf.l0 k (x404000.length : Int) 0 x404000 (x404000.length : Int) 0 x404000)
def spec_StreetOf.l0 : Nat → Int → Int → List Int → Int → Int → List Int → Option (List Int × Int × Bool)
 | 0, _, _, _, _, _, _ => none
 | k + 1, x5, x6, x25, x26, x27, x404000 => if x27 < x26 then (if 0 ≤ x27 then (if x27 < (x25.length : Int) then (if (rd x25 x27) = (-1) then (spec_StreetOf.l0 k x5 x27 x25 x26 (wrap64 (x27 + 1)) x404000) else (spec_StreetOf.l0 k x5 x6 x25 x26 (wrap64 (x27 + 1)) x404000)) else (none)) else (none)) else ((spec_prFirst.f k x404000).bind fun t408 => (spec_StreetOf.l1 k x5 x6 ([] : List Int) t408 (t408.length : Int) 0))
def spec_StreetOf.l1 : Nat → Int → Int → List Int → List Int → Int → Int → Option (List Int × Int × Bool)
 | 0, _, _, _, _, _, _ => none
 | k + 1, x5, x6, x9, x37, x38, x39 => if x39 < x38 then (if 0 ≤ x39 then (if x39 < (x37.length : Int) then (if x5 = 0 then (none) else (if x9.length < 17592186044416 then (spec_StreetOf.l1 k x5 x6 (x9 ++ [Int.tmod (wrap64 ((wrap64 ((wrap64 ((Int.tmod (rd x37 x39) x5) - x6)) - 1)) + (wrap64 (2 * x5)))) x5]) x37 x38 (wrap64 (x39 + 1))) else (none))) else (none)) else (none)) else (some (x9, wrap64 (x5 - 1), true))
end
def spec_StreetOf.f (k : Nat) (l0_0 : List Int) : Option (List Int × Int × Bool) := (spec_prGood.f k l0_0).bind fun t404 => (if t404 = true then ((spec_prMany.f k l0_0).bind fun t405 => ((spec_l1In.f t405 1 8).bind fun t406 => (spec_StreetOf.j0 k (!t406) l0_0))) else (spec_StreetOf.j0 k true l0_0))
theorem spec_StreetOf.mono_l : ∀ k, (∀ y0 y1, LeO (spec_StreetOf.j0 k y0 y1) (spec_StreetOf.j0 (k + 1) y0 y1)) ∧ (∀ y0 y1 y2 y3 y4 y5, LeO (spec_StreetOf.l0 k y0 y1 y2 y3 y4 y5) (spec_StreetOf.l0 (k + 1) y0 y1 y2 y3 y4 y5)) ∧ (∀ y0 y1 y2 y3 y4 y5, LeO (spec_StreetOf.l1 k y0 y1 y2 y3 y4 y5) (spec_StreetOf.l1 (k + 1) y0 y1 y2 y3 y4 y5))
 | 0 => ⟨fun _ _ r h => by simp [spec_StreetOf.j0] at h, fun _ _ _ _ _ _ r h => by simp [spec_StreetOf.l0] at h, fun _ _ _ _ _ _ r h => by simp [spec_StreetOf.l1] at h⟩
 | k + 1 => by
  obtain ⟨ih0, ih1, ih2⟩ := spec_StreetOf.mono_l k
  refine ⟨?_, ?_, ?_⟩
  ·intro y0 y1
   unfold spec_StreetOf.j0
   exact mo6_ ih0 ih1 ih2 spec_prFirst.mono spec_prGood.mono spec_prMany.mono
  ·intro y0 y1 y2 y3 y4 y5
   unfold spec_StreetOf.l0
   exact mo6_ ih0 ih1 ih2 spec_prFirst.mono spec_prGood.mono spec_prMany.mono
  intro y0 y1 y2 y3 y4 y5
  unfold spec_StreetOf.l1
  exact mo6_ ih0 ih1 ih2 spec_prFirst.mono spec_prGood.mono spec_prMany.mono
theorem spec_StreetOf.mono : ∀ a0 k, LeO (spec_StreetOf.f k a0) (spec_StreetOf.f (k + 1) a0) := by
 intro a0 k
 obtain ⟨ih0, ih1, ih2⟩ := spec_StreetOf.mono_l k
 unfold spec_StreetOf.f
 exact mo6_ ih0 ih1 ih2 spec_prFirst.mono spec_prGood.mono spec_prMany.mono
set_option maxHeartbeats 8000000 in
set_option maxRecDepth 100000 in
theorem spec_StreetOf.calls (k : Nat) (A0_0 : Option Addr) (c0_0 : Nat) (l0_0 : List Int) (r1 : List Int) (r2 : Int) (r3 : Bool) (w : World) (hr0_0 : Kd.C (Kd.int .i64) w A0_0 l0_0.length l0_0) (hc0_0 : l0_0.length ≤ c0_0) (h : spec_StreetOf.f k l0_0 = some (r1, r2, r3)) :
  Calls Tryz.prog 11 #[.agg #[.slice A0_0 l0_0.length c0_0]] w fun e w' => ∃ v0_ : Value, e = .returned (.tuple #[v0_, .int .i64 r2, .bool r3]) ∧ Kd.R (Kd.int .i64) 3 w' w.heap.size (fun _ => True) v0_ r1 ∧ Below w.heap.size w w' := by
 have hu26 := Tryz.underlying26
 have HR0_0 := aS_ hr0_0
 have HC0_0 := aS_ hc0_0
 clear hr0_0 hc0_0
 have HB := aS_ (Below.refl w.heap.size w)
 have H : ((spec_prGood.f k l0_0).bind fun t404 => (if t404 = true then ((spec_prMany.f k l0_0).bind fun t405 => ((spec_l1In.f t405 1 8).bind fun t406 => (spec_StreetOf.j0 k (!t406) l0_0))) else (spec_StreetOf.j0 k true l0_0))) = some (r1, r2, r3) := h
 clear h
 have HC2 := aS_ H
 clear H
 go_enter Tryz.func11, Tryz.ntmps11
 go_upto_region 1 with (first | ((with_reducible refine gg_ ?_); refine bx_ 1 #[.slice A0_0 l0_0.length c0_0] 26 ?_; intro gb403 hg w3 hbox hb; have BK403 := aS_ (hbox); have GW403 := gE_ HB hg; have GE403 := gE_ HB hg; replace HB := bE_ HB hb; clear hb hbox hg))
 (try simp only [Act.put, List.setIfInBounds_toArray, List.set_cons_zero, List.set_cons_succ])
 go_cut [20] (fun v20 wc => ∃ (kq : Nat) (x20_1 : Bool), v20 = .bool x20_1 ∧ Aside0 (spec_StreetOf.j0 kq x20_1 l0_0 = some (r1, r2, r3)) ∧ Aside0 (kq ≤ k) ∧ Aside0 (wc.heap[gb403]? = some (.cells #[(.slice A0_0 l0_0.length c0_0)] 26 (0, 0))) ∧ Aside0 (Below w.heap.size w wc))
 case first =>
  have H := HC2.out
  clear HC2
  replace H := bs_ H; obtain ⟨t404, A4, H⟩ := H
  replace H := it_ H; rcases H with ⟨rfl, H⟩ | ⟨rfl, H⟩
  ·replace H := bs_ H; obtain ⟨t405, A6, H⟩ := H
   replace H := bs_ H; obtain ⟨t406, A7, H⟩ := H
   have H' := aS_ H
   clear H
   obtain ⟨hcz8_0, hfz8_0⟩ := c10_ BK403
   go_wp2_with (first | ((with_reducible refine gg_ ?_); refine gc_ 30 (some 13) Tryz.func30 #[.agg #[.slice A0_0 l0_0.length c0_0]] ?_; (with_reducible refine (spec_prGood.calls k _ _ l0_0 true _ ?side1 ?side2 A4.out).mono ?_); (case side1 => exact cB_ HR0_0 HB); (case side2 => exact HC0_0.out); rintro e w9 ⟨rfl, hb⟩; refine ⟨_, rfl, ?_⟩; replace BK403 := kO_ BK403 hb; replace HB := bE_ HB hb; (try clear hb); obtain ⟨hcz10_0, hfz10_0⟩ := c10_ BK403) | (go_at_call 34; (with_reducible refine (spec_prMany.calls k _ _ l0_0 t405 _ ?side1 ?side2 A6.out).mono ?_); (case side1 => exact cB_ HR0_0 HB); (case side2 => exact HC0_0.out); rintro e w11 ⟨rfl, hb⟩; replace BK403 := kO_ BK403 hb; replace HB := bE_ HB hb; (try clear hb)) | (go_at_call 40; (with_reducible refine (spec_l1In.calls t405 1 8 t406 _ A7.out).mono ?_); rintro e w' ⟨rfl, ⟨nd, rfl⟩⟩))
   go_meet
   case rel => exact ⟨_, (!t406), sR_, H', ⟨by first | omega | exact Nat.le_refl _⟩, ⟨kk_ BK403⟩, ⟨bb_ HB⟩⟩
  have H' := aS_ H
  clear H
  obtain ⟨hcz12_0, hfz12_0⟩ := c10_ BK403
  go_wp2_with (first | ((with_reducible refine gg_ ?_); refine gc_ 30 (some 13) Tryz.func30 #[.agg #[.slice A0_0 l0_0.length c0_0]] ?_; (with_reducible refine (spec_prGood.calls k _ _ l0_0 false _ ?side1 ?side2 A4.out).mono ?_); (case side1 => exact cB_ HR0_0 HB); (case side2 => exact HC0_0.out); rintro e w13 ⟨rfl, hb⟩; refine ⟨_, rfl, ?_⟩; replace BK403 := kO_ BK403 hb; replace HB := bE_ HB hb; (try clear hb)))
  go_meet
  case rel => exact ⟨_, (true), sR_, H', ⟨by first | omega | exact Nat.le_refl _⟩, ⟨kk_ BK403⟩, ⟨bb_ HB⟩⟩
 case rest =>
 clear HC2
 obtain ⟨kq, x20_1, rfl, HA, HJ1, BK403, HB⟩ := hcut
 cases kq with
 | zero => exact absurd HA.out (by simp [spec_StreetOf.j0])
 | succ kj1 =>
 have H := HA.out
 clear HA
 simp only [spec_StreetOf.j0] at H
 replace H := it_ H; rcases H with ⟨rfl, H⟩ | ⟨rfl, H⟩
 ·simp only [Option.some.injEq, Prod.mk.injEq] at H
  obtain ⟨rfl, rfl, rfl⟩ := H
  go_wp2
  go_ret3
  exact ⟨_, by first | rfl | (simp [errW_none, errW_some] <;> rfl) | (simp [*, errW_none, errW_some] <;> rfl), by first | exact Kd.R_nil _ _ _ _ _ | exact Kd.N_nil _ _ _ _ _ | exact Kd.V_nil _ _ _ _ _ | exact Kd.Q_nil _ _ _ _ _ | exact Kd.S_nil _ _ _ _ _, bb_ HB⟩
 have H' := aS_ H
 clear H
 obtain ⟨hcz15_0, hfz15_0⟩ := c10_ BK403
 go_wp2
 go_loopg [6, 27] kj1 (fun kq v6 v27 w' => ∃ (x6_2 : Int) (x27_2 : Int), v6 = .int .i64 x6_2 ∧ v27 = .int .i64 x27_2 ∧ Aside0 (spec_StreetOf.l0 kq (l0_0.length : Int) x6_2 l0_0 (l0_0.length : Int) x27_2 l0_0 = some (r1, r2, r3)) ∧ Aside0 (kq ≤ kj1) ∧ Aside0 (w'.heap[gb403]? = some (.cells #[(.slice A0_0 l0_0.length c0_0)] 26 (0, 0))) ∧ Aside0 (Below w.heap.size w w'))
 case atStart => exact ⟨(0), (0), sR_, sR_, H', ⟨Nat.le_refl _⟩, ⟨kk_ BK403⟩, ⟨bb_ HB⟩⟩
 case round =>
 clear H'
 try clear hcz15_0
 try clear hfz15_0
 obtain ⟨x6_2, x27_2, rfl, rfl, HA, HK2, BK403, HB⟩ := hrel
 cases gk with
 | zero => exact absurd HA.out (by simp [spec_StreetOf.l0])
 | succ k2 =>
 have H := HA.out
 clear HA
 simp only [spec_StreetOf.l0] at H
 replace H := id_ H; rcases H with ⟨c16b0, H⟩ | ⟨c16b0, H⟩
 ·replace H := jd_ H; obtain ⟨c17b0, H⟩ := H
  replace H := jd_ H; obtain ⟨c18b0, H⟩ := H
  replace H := iq_ H; rcases H with ⟨c19b0, c19b1, H⟩ | ⟨c19b0, c19b1, c19, H⟩
  ·have H' := aS_ H
   clear H
   have p407 : 0 ≤ (x27_2 : Int) := of_decide_eq_true (by assumption)
   have q407 : x27_2 < (l0_0.length : Int) := of_decide_eq_true (by assumption)
   obtain ⟨ad407, e407, hx407_0⟩ := Kd.at_int HR0_0.out x27_2 p407 q407
   cases e407
   replace hx407_0 := (HB.out.cell (World.block_lt_of_cell? w _ hx407_0)).trans hx407_0
   replace p407 := eq_true p407
   replace q407 := eq_true q407
   go_wp2
   go_roundg k2
   case measure => have := HJ1.out; have := HK2.out; omega
   case rel => exact ⟨(x27_2), (wrap64 (x27_2 + 1)), sR_, sR_, H', ⟨by have := HJ1.out; have := HK2.out; omega⟩, ⟨kk_ BK403⟩, ⟨bb_ HB⟩⟩
  have H' := aS_ H
  clear H
  have p407 : 0 ≤ (x27_2 : Int) := of_decide_eq_true (by assumption)
  have q407 : x27_2 < (l0_0.length : Int) := of_decide_eq_true (by assumption)
  obtain ⟨ad407, e407, hx407_0⟩ := Kd.at_int HR0_0.out x27_2 p407 q407
  cases e407
  replace hx407_0 := (HB.out.cell (World.block_lt_of_cell? w _ hx407_0)).trans hx407_0
  replace p407 := eq_true p407
  replace q407 := eq_true q407
  go_wp2
  go_roundg k2
  case measure => have := HJ1.out; have := HK2.out; omega
  case rel => exact ⟨(x6_2), (wrap64 (x27_2 + 1)), sR_, sR_, H', ⟨by have := HJ1.out; have := HK2.out; omega⟩, ⟨kk_ BK403⟩, ⟨bb_ HB⟩⟩
 replace H := bs_ H; obtain ⟨t408, A20, H⟩ := H
 have H' := aS_ H
 clear H
 obtain ⟨hcz21_0, hfz21_0⟩ := c10_ BK403
 go_wp2_with (first | ((with_reducible refine gg_ ?_); refine gc_ 31 (some 37) Tryz.func31 #[.agg #[.slice A0_0 l0_0.length c0_0]] ?_; (with_reducible refine (spec_prFirst.calls k2 _ _ l0_0 t408 _ ?side1 ?side2 A20.out).mono ?_); (case side1 => exact cB_ HR0_0 HB); (case side2 => exact HC0_0.out); rintro e w22 ⟨v409, rfl, ho0, hb⟩; refine ⟨_, rfl, ?_⟩; have HO410 := aS_ (Kd.R_lower ho0 (below_size (bb_ HB))); replace BK403 := kO_ BK403 hb; replace HB := bE_ HB hb; (try clear hb); (try clear ho0); obtain ⟨Ao23, co23, eo23⟩ := Kd.R_slice HO410.out; subst eo23))
 go_loopg [9, 39] k2 (fun kq v9 v39 w' => ∃ (x9_3 : List Int) (x39_3 : Int), v39 = .int .i64 x39_3 ∧ Aside0 (spec_StreetOf.l1 kq (l0_0.length : Int) x6_2 x9_3 t408 (t408.length : Int) x39_3 = some (r1, r2, r3)) ∧ Aside0 (kq ≤ k2) ∧ Aside0 (Kd.R (Kd.int .i64) 3 w' w.heap.size (fun k_ => some k_ ≠ ((.slice Ao23 t408.length co23) : Value).ownBlock) v9 x9_3) ∧ Aside0 (Kd.R (Kd.int .i64) 3 w' w.heap.size (fun k_ => some k_ ≠ (v9 : Value).ownBlock) (.slice Ao23 t408.length co23) t408) ∧ Aside0 (w'.heap[gb403]? = some (.cells #[(.slice A0_0 l0_0.length c0_0)] 26 (0, 0))) ∧ Aside0 (Below w.heap.size w w'))
 case atStart => exact ⟨(([] : List Int)), (0), sR_, H', ⟨Nat.le_refl _⟩, ⟨by first | exact Kd.R_nil _ _ _ _ _ | exact Kd.N_nil _ _ _ _ _ | exact Kd.V_nil _ _ _ _ _ | exact Kd.Q_nil _ _ _ _ _ | exact Kd.S_nil _ _ _ _ _⟩, ⟨by (with_reducible repeat (first | apply rA_ | apply rN_ | apply rD_)); exact Kd.R_mono HO410.out (fun _ hk => (by simp [Value.ownBlock]))⟩, ⟨kk_ BK403⟩, ⟨bb_ HB⟩⟩
 case round =>
 clear H'
 try clear c16b0
 try clear hcz15_0
 try clear hcz21_0
 try clear hfz15_0
 try clear hfz21_0
 obtain ⟨x9_3, x39_3, rfl, HA, HK3, HO_9, HO_37, BK403, HB⟩ := hrel
 cases gk with
 | zero => exact absurd HA.out (by simp [spec_StreetOf.l1])
 | succ k3 =>
 have H := HA.out
 clear HA
 simp only [spec_StreetOf.l1] at H
 replace H := id_ H; rcases H with ⟨c24b0, H⟩ | ⟨c24b0, H⟩
 ·replace H := jd_ H; obtain ⟨c25b0, H⟩ := H
  replace H := jd_ H; obtain ⟨c26b0, H⟩ := H
  replace H := jn_ H; obtain ⟨c27, H⟩ := H
  have c27b0 : ((l0_0.length : Int) == 0) = false := beq_eq_false_iff_ne.mpr c27
  have c27b1 : ((l0_0.length : Int) != 0) = true := bne_iff_ne.mpr c27
  have c27b2 : ¬ (l0_0 = []) := fun h_ => c27 (by rw [h_]; rfl)
  replace H := jp_ H; obtain ⟨c28, H⟩ := H
  have LMc28 := aS_ c28
  clear c28
  obtain ⟨y412, hy412⟩ : ∃ y_ : List Int, y_ = (x9_3 ++ [Int.tmod (wrap64 ((wrap64 ((wrap64 ((Int.tmod (rd t408 x39_3) (l0_0.length : Int)) - x6_2)) - 1)) + (wrap64 (2 * (l0_0.length : Int))))) (l0_0.length : Int)]) := ⟨_, rfl⟩
  replace H : (spec_StreetOf.l1 k3 (l0_0.length : Int) x6_2 y412 t408 (t408.length : Int) (wrap64 (x39_3 + 1))) = some (r1, r2, r3) := yH_ hy412 H
  have Ny412 := aS_ hy412
  clear hy412
  have H' := aS_ H
  clear H
  have p411 : 0 ≤ (x39_3 : Int) := of_decide_eq_true (by assumption)
  have q411 : x39_3 < (t408.length : Int) := of_decide_eq_true (by assumption)
  obtain ⟨ad411, e411, hx411_0⟩ := Kd.at_int (Kd.R_reads' HO_37.out).2.2 x39_3 p411 q411
  cases e411
  replace p411 := eq_true p411
  replace q411 := eq_true q411
  go_wp2_with (first | ((with_reducible refine gate_builtin (b := .append) (xs := #[.tmp 43, .tmp 55]) rfl ?_); at_builtin; refine Kd.R_append (Kd.int .i64) (w0 := w) w.heap.size rfl (.tmp 43) (.tmp 55) 24 3 (.int .i64 0) 8 rfl Tryz.underlying24 info3 rfl (by decide) (by omega) u9 x9_3 (Int.tmod (wrap64 ((wrap64 ((wrap64 ((Int.tmod (rd t408 x39_3) (l0_0.length : Int)) - x6_2)) - 1)) + (wrap64 (2 * (l0_0.length : Int))))) (l0_0.length : Int)) [.int .i64 (Int.tmod (wrap64 ((wrap64 ((wrap64 ((Int.tmod (rd t408 x39_3) (l0_0.length : Int)) - x6_2)) - 1)) + (wrap64 (2 * (l0_0.length : Int))))) (l0_0.length : Int))] (fun k_ => some k_ ≠ (.slice (some ad411) t408.length co23 : Value).ownBlock) (fun _ => False) rfl rfl ?aP (fun _ hk => hk.elim) ?aF ?aO ?aB ?aS ?aL ?_; (case aP => exact rfl); (case aB => exact (bb_ HB)); (case aF => exact (fun k_ hk => Kd.fresh' (Kd.R_lt (rr_ HO_37)) k_ hk)); (case aO => exact (rr_ HO_9)); (case aS => exact (below_size (bb_ HB))); (case aL => have := LMc28.out; omega); intro v413 w29 ho hb hg hat; rw [← Ny412.out] at ho; replace HO_37 := aS_ (Kd.R_after (ok := (fun _ => True)) (by (with_reducible repeat (first | apply rA_ | apply rN_ | apply rD_)); exact Kd.R_mono HO_37.out (fun _ hk => ⟨trivial, hk⟩)) hg hat); replace BK403 := aS_ (blk_grown (g := gb403) (o := .cells #[.slice A0_0 l0_0.length c0_0] 26 (0, 0)) (kk_ BK403) hg (Kd.R_ne HO_9.out BK403.out (by decide))); replace HB := aS_ (hb); have HO414 := aS_ (ho); clear HO_9; clear ho hb hg hat))
  go_roundg k3
  case measure => have := HJ1.out; have := HK2.out; have := HK3.out; omega
  case rel => exact ⟨(y412), (wrap64 (x39_3 + 1)), sR_, H', ⟨by have := HJ1.out; have := HK2.out; have := HK3.out; omega⟩, ⟨rr_ HO414⟩, ⟨by (with_reducible repeat (first | apply rA_ | apply rN_ | apply rD_)); exact Kd.R_mono HO_37.out (fun _ hk => hk.2)⟩, ⟨kk_ BK403⟩, ⟨bb_ HB⟩⟩
 simp only [Option.some.injEq, Prod.mk.injEq] at H
 obtain ⟨rfl, rfl, rfl⟩ := H
 go_wp2
 go_ret3
 exact ⟨_, by first | rfl | (simp [errW_none, errW_some] <;> rfl) | (simp [*, errW_none, errW_some] <;> rfl), by (with_reducible repeat (first | apply rA_ | apply rN_ | apply rD_)); exact Kd.R_mono HO_9.out (fun _ hk => trivial), bb_ HB⟩
end Go.Proofs.YteakjjimkagmkaaGreatDoor.G
namespace Go.Proofs.YteakjjimkagmkaaGreatDoor.G
open Go.RowKit Go.Lib Go.Proofs.YteakjjimkagmkaaGreatDoorW.PrintWords Go.Proofs.YteakjjimkagmkaaGreatDoorW.PrintLast Go.Proofs.YteakjjimkagmkaaGreatDoorW.PrintMore
theorem m_mask (a : Nat) (ha : a < 4294967296) : bits .and .u64 (a : Int) 4294967295 = (a : Int) := by
  have h := bits_and_u64_nat a 4294967295 (by omega) (by omega)
  have e : a &&& 4294967295 = a % 4294967296 := Nat.and_two_pow_sub_one_eq_mod a 32
  rw [e, Nat.mod_eq_of_lt ha] at h
  exact h
theorem m_wrap (a : Nat) (ha : a < 18446744073709551616) : IntKind.u64.wrap (a : Int) = (a : Int) := by rw [IntKind.wrap_u64]; omega
theorem m_div (a : Nat) (ha : a < 4294967296) : (a : Int) / 4294967296 = 0 := by omega
theorem m_one : bits .and .u64 1 4294967295 = 1 := m_mask 1 (by omega)
end Go.Proofs.YteakjjimkagmkaaGreatDoor.G
