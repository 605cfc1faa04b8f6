/- The law FnInsertionOrders: part 6 of the printed functions and the facts on them that its row leans on (merged by this session's slim.py). -/
import Derived.Test.YteakjjimkagmkaaGreatDoorZFnInsertionOrders5
set_option linter.unusedVariables false
set_option linter.unusedSimpArgs false
namespace Go.Proofs.YteakjjimkagmkaaGreatDoor.Pure
open Go.RowKit Go.Proofs.YteakjjimkagmkaaGreatDoor.G Go.Proofs.YteakjjimkagmkaaGreatDoorW.PrintWords Go.Proofs.YteakjjimkagmkaaGreatDoorW.PrintLast
theorem sC_of {n g o : Nat} (hg : g < n) (ho : o < n) : sC n g o = if g < o then o - g - 1 else o + n - g - 1 := by
  unfold sC
  by_cases c : g < o
  · rw [if_pos c, show o + 2 * n - g - 1 = (o - g - 1) + n + n by omega, Nat.add_mod_right, Nat.add_mod_right, Nat.mod_eq_of_lt (by omega)]
  · rw [if_neg c, show o + 2 * n - g - 1 = (o + n - g - 1) + n by omega, Nat.add_mod_right, Nat.mod_eq_of_lt (by omega)]
theorem sC_inj {n g a b : Nat} (hg : g < n) (ha : a < n) (hb : b < n) (e : sC n g a = sC n g b) : a = b := by
  rw [sC_of hg ha, sC_of hg hb] at e
  split at e <;> split at e <;> omega
theorem sC_lt {n g o : Nat} (hg : g < n) (ho : o < n) (hne : o ≠ g) : sC n g o < n - 1 := by
  rw [sC_of hg ho]
  split <;> omega
theorem sC_next {n g o : Nat} (hg : g < n) (ho : o < n) (hne : o ≠ g) : sC n g ((o + 1) % n) = sC n g o + 1 := by
  rcases Nat.lt_or_ge (o + 1) n with h | h
  · rw [Nat.mod_eq_of_lt h, sC_of hg ho, sC_of hg h]
    split <;> split <;> omega
  · have e : o + 1 = n := by omega
    rw [e, Nat.mod_self, sC_of hg (o := 0) (by omega), sC_of hg ho, if_neg (by omega), if_pos (by omega)]
    omega
theorem sC_way {n g key : Nat} (hg : g < n) : ∀ m, (∀ j, j < m → (key + j) % n ≠ g) → sC n g ((key + m) % n) = sC n g (key % n) + m
  | 0, _ => rfl
  | m + 1, h => by
    have ih := sC_way (key := key) hg m (fun j hj => h j (by omega))
    have hn : 0 < n := by omega
    have := sC_next hg (Nat.mod_lt (key + m) hn) (h m (by omega))
    rw [Nat.mod_add_mod, Nat.add_assoc] at this
    rw [this, ih]
    omega
theorem fo_pref (l : List Int) : ∀ (d : Nat) (S : List Int), ∃ r, fo l d S = S ++ r
  | 0, S => ⟨[], by rw [fo, List.append_nil]⟩
  | d + 1, S => by
    rw [fo]
    split
    · exact ⟨[], by rw [List.append_nil]⟩
    · rename_i x r e
      obtain ⟨t, ht⟩ := fo_pref l d (S ++ [x])
      exact ⟨x :: t, by rw [ht, List.append_assoc]; rfl⟩
/-- Each key of the order may come next behind those before it. -/
theorem fo_rdy (l : List Int) : ∀ (d : Nat) (S : List Int) (q : Nat), S.length ≤ q → q < (fo l d S).length → rdyB l ((fo l d S).take q) ((fo l d S).getD q 0) = true
  | 0, S, q, h1, h2 => by rw [fo] at h2; omega
  | d + 1, S, q, h1, h2 => by
    rw [fo] at h2 ⊢
    split at h2
    · omega
    · rename_i x r e
      obtain ⟨t, ht⟩ := fo_pref l d (S ++ [x])
      rcases Nat.eq_or_lt_of_le h1 with h | h
      · have hx : x ∈ (keysZ l).filter (rdyB l S) := by rw [e]; exact List.mem_cons_self
        have hr := (List.mem_filter.1 hx).2
        rw [ht, List.append_assoc, ← h, List.take_left, List.getD_eq_getElem?_getD, List.getElem?_append_right (Nat.le_refl _), Nat.sub_self]
        exact hr
      · exact fo_rdy l d (S ++ [x]) q (by rw [List.length_append, List.length_singleton]; omega) h2
/-- What the drive of the street is, car by car. -/
structure Rides (n : Nat) (F : List Int) (fv pl : Int → Nat) : Prop where
  fits : ∀ q, q < F.length → pl (F.getD q 0) < n
  from_ : ∀ q, q < F.length → fv (F.getD q 0) ≤ pl (F.getD q 0)
  full : ∀ q, q < F.length → ∀ p, fv (F.getD q 0) ≤ p → p < pl (F.getD q 0) → ∃ y ∈ F.take q, pl y = p
  free : ∀ q, q < F.length → ∀ y ∈ F.take q, pl y ≠ pl (F.getD q 0)
/-- The cell of a key. -/
def cellK (l : List Int) (x : Int) : Nat := (ixF l x l.length 0).toNat
theorem cell_here {l : List Int} (h : tblB l = true) {x : Int} (hx : x ∈ keysZ l) : cellK l x < l.length ∧ l.getD (cellK l x) 0 = x ∧ 0 ≤ x ∧ x ≤ 999 ∧ cstK l x = costN l.length x.toNat (cellK l x) ∧ (x.toNat + cstK l x) % l.length = cellK l x := by
  obtain ⟨h1, h2, h3, h4⟩ := tblB_parts h
  obtain ⟨i, hi, rfl, h0⟩ := key_at hx
  have e : cellK l (l.getD i 0) = i := by unfold cellK; rw [ix_here h hi h0, Int.toNat_natCast]
  have hc := (cst_here h hi h0).2
  have hv := h3 i hi
  refine ⟨by rw [e]; exact hi, by rw [e], h0, by omega, by rw [e]; exact hc, ?_⟩
  rw [e, hc]
  unfold costN
  have hm := Nat.mod_lt (l.getD i 0).toNat (show 0 < l.length by omega)
  rw [Nat.add_mod, Nat.mod_mod, ← Nat.add_mod, ← Nat.mod_add_mod, show (l.getD i 0).toNat % l.length + (i + l.length - (l.getD i 0).toNat % l.length) = i + l.length by omega, Nat.add_mod_right, Nat.mod_eq_of_lt hi]
theorem street_rides {l F : List Int} (h : tblB l = true) {d : Nat} (hF : F = fo l d []) {g : Nat} (hg : g < l.length) (he : l.getD g 0 = -1) :
    Rides (l.length - 1) F (fun x => sC l.length g (x.toNat % l.length)) (fun x => sC l.length g (cellK l x)) ∧ ∀ x ∈ F, sC l.length g (cellK l x) = sC l.length g (x.toNat % l.length) + cstK l x := by
  have D : Done l F := by rw [hF]; exact fo_done d [] (Done.nil l)
  have hmem : ∀ q, q < F.length → F.getD q 0 ∈ F := fun q hq => getD_mem hq
  have hr : ∀ q, q < F.length → rdyB l (F.take q) (F.getD q 0) = true := fun q hq => by
    subst hF
    exact fo_rdy l d [] q (Nat.zero_le _) hq
  have hway : ∀ q, q < F.length → ∀ m, m < cstK l (F.getD q 0) → l.getD (((F.getD q 0).toNat + m) % l.length) 0 ∈ F.take q := fun q hq m hm => by
    have := hr q hq
    rw [rdyB, Bool.and_eq_true] at this
    have := (wayS_iff l (F.take q) (F.getD q 0) _ 0).1 this.1 m hm
    rwa [Nat.add_zero] at this
  have hng : ∀ q, q < F.length → ∀ m, m < cstK l (F.getD q 0) → ((F.getD q 0).toNat + m) % l.length ≠ g := fun q hq m hm e => by
    have h1 := hway q hq m hm
    rw [e, he] at h1
    have := D.nonneg _ (List.mem_of_mem_take h1)
    omega
  have key : ∀ q, q < F.length → sC l.length g (cellK l (F.getD q 0)) = sC l.length g ((F.getD q 0).toNat % l.length) + cstK l (F.getD q 0) := fun q hq => by
    have hc := cell_here h (D.mem _ (hmem q hq))
    rw [← hc.2.2.2.2.2]
    exact sC_way hg _ (hng q hq)
  have cne : ∀ x ∈ F, cellK l x ≠ g := fun x hx e => by
    have hc := cell_here h (D.mem x hx)
    rw [e, he] at hc
    omega
  refine ⟨⟨fun q hq => ?_, fun q hq => ?_, fun q hq p hp1 hp2 => ?_, fun q hq y hy e => ?_⟩, fun x hx => ?_⟩
  · exact sC_lt hg (cell_here h (D.mem _ (hmem q hq))).1 (cne _ (hmem q hq))
  · show sC l.length g ((F.getD q 0).toNat % l.length) ≤ sC l.length g (cellK l (F.getD q 0))
    rw [key q hq]; omega
  · replace hp1 : sC l.length g ((F.getD q 0).toNat % l.length) ≤ p := hp1
    replace hp2 : p < sC l.length g (cellK l (F.getD q 0)) := hp2
    rw [key q hq] at hp2
    obtain ⟨m, rfl⟩ : ∃ m, p = sC l.length g ((F.getD q 0).toNat % l.length) + m := ⟨p - sC l.length g ((F.getD q 0).toNat % l.length), by omega⟩
    have hm : m < cstK l (F.getD q 0) := by omega
    refine ⟨_, hway q hq m hm, ?_⟩
    have hy := hway q hq m hm
    have hi : ((F.getD q 0).toNat + m) % l.length < l.length := Nat.mod_lt _ (by omega)
    have h0 := D.nonneg _ (List.mem_of_mem_take hy)
    have e : cellK l (l.getD (((F.getD q 0).toNat + m) % l.length) 0) = ((F.getD q 0).toNat + m) % l.length := by unfold cellK; rw [ix_here h hi h0, Int.toNat_natCast]
    show sC l.length g (cellK l _) = _
    rw [e]
    exact sC_way hg m (fun j hj => hng q hq j (by omega))
  · have hq' := hr q hq
    rw [rdyB, Bool.and_eq_true] at hq'
    have hnot : F.getD q 0 ∉ F.take q := by simpa using hq'.2
    have hcy := cell_here h (D.mem y (List.mem_of_mem_take hy))
    have hcx := cell_here h (D.mem _ (hmem q hq))
    have ec := sC_inj hg hcy.1 hcx.1 e
    have : y = F.getD q 0 := by rw [← hcy.2.1, ec, hcx.2.1]
    exact hnot (this ▸ hy)
  · obtain ⟨q, hq, rfl⟩ := List.getElem_of_mem hx
    have := key q hq
    rw [getD_get hq] at this
    exact this
/-- How many orders go on behind S, d keys being left. -/
def cn (l : List Int) : Nat → List Int → Int
  | 0, _ => 1
  | d + 1, S => if (keysZ l).filter (rdyB l S) = [] then 1 else (((keysZ l).filter (rdyB l S)).map fun x => cn l d (S ++ [x])).sum
theorem sum_range (g : Int → Int) (C : Int) (hC : 0 ≤ C) : ∀ (r : List Int), (∀ x ∈ r, 0 ≤ g x ∧ g x ≤ C) → 0 ≤ (r.map g).sum ∧ (r.map g).sum ≤ (r.length : Int) * C
  | [], _ => by simp
  | x :: r, h => by
    obtain ⟨h1, h2⟩ := sum_range g C hC r (fun y hy => h y (List.mem_cons_of_mem _ hy))
    obtain ⟨h3, h4⟩ := h x List.mem_cons_self
    rw [List.map_cons, List.sum_cons, List.length_cons]
    have : ((r.length + 1 : Nat) : Int) * C = (r.length : Int) * C + C := by rw [Int.natCast_add, Int.add_mul]; simp
    omega
theorem cn_range {l : List Int} (hl : (keysZ l).length ≤ 7) : ∀ (d : Nat) (S : List Int), 0 ≤ cn l d S ∧ cn l d S ≤ ((7 ^ d : Nat) : Int)
  | 0, S => by simp [cn]
  | d + 1, S => by
    rw [cn]
    have hp : (7 ^ (d + 1) : Nat) = 7 ^ d * 7 := Nat.pow_succ ..
    have h1 : 1 ≤ 7 ^ d := Nat.one_le_pow _ _ (by omega)
    split
    · omega
    · have hf := List.length_filter_le (rdyB l S) (keysZ l)
      obtain ⟨h2, h3⟩ := sum_range (fun x => cn l d (S ++ [x])) ((7 ^ d : Nat) : Int) (by omega) ((keysZ l).filter (rdyB l S)) (fun x _ => cn_range hl d _)
      have h4 : (((keysZ l).filter (rdyB l S)).length : Int) * ((7 ^ d : Nat) : Int) ≤ 7 * ((7 ^ d : Nat) : Int) := Int.mul_le_mul_of_nonneg_right (by omega) (by omega)
      refine ⟨h2, ?_⟩
      rw [hp]
      omega
theorem cn_small {l : List Int} (hl : (keysZ l).length ≤ 7) {d : Nat} (hd : d ≤ 7) (S : List Int) : 0 ≤ cn l d S ∧ cn l d S ≤ 1000000 := by
  obtain ⟨h1, h2⟩ := cn_range hl d S
  have h3 : (7 : Nat) ^ d ≤ 7 ^ 7 := Nat.pow_le_pow_right (by omega) hd
  have h4 : (7 : Nat) ^ 7 = 823543 := by decide
  omega
theorem insL_all (l S : List Int) (rec : List Int → Option Int) : ∀ (r : List Int) (m : Int) (b : Bool), (∀ x ∈ r, x ∈ S) → insL l S rec r m b = some (if b = true then 1 else m)
  | [], m, b, _ => rfl
  | x :: r, m, b, h => by
    rw [insL, if_pos (h x List.mem_cons_self)]
    exact insL_all l S rec r m b (fun y hy => h y (List.mem_cons_of_mem _ hy))
theorem insL_sum (l S : List Int) (rec : List Int → Option Int) (g : Int → Int) : ∀ (r : List Int) (m : Int) (b : Bool), (∀ x ∈ r, rdyB l S x = true → rec (S ++ [x]) = some (g x) ∧ 0 ≤ g x ∧ g x ≤ 1000000) → 0 ≤ m → m + (r.length : Int) * 1000000 ≤ 1000000000000 →
    (b = false ∨ ∃ x, x ∈ r ∧ x ∉ S) → insL l S rec r m b = some (m + ((r.filter (rdyB l S)).map g).sum)
  | [], m, b, _, _, _, hb => by
    rcases hb with rfl | ⟨x, hx, _⟩
    · simp [insL]
    · cases hx
  | x :: r, m, b, h, hm, hl, hb => by
    rw [List.length_cons] at hl
    have h' := fun y (hy : y ∈ r) => h y (List.mem_cons_of_mem _ hy)
    rw [insL]
    by_cases hs : x ∈ S
    · have hr : rdyB l S x = false := by rw [rdyB, decide_eq_true hs]; simp
      rw [if_pos hs, List.filter_cons_of_neg (by rw [hr]; decide)]
      refine insL_sum l S rec g r m b h' hm (by omega) ?_
      rcases hb with hb | ⟨y, hy, hyS⟩
      · exact Or.inl hb
      · rcases List.mem_cons.1 hy with rfl | hy
        · exact absurd hs hyS
        · exact Or.inr ⟨y, hy, hyS⟩
    · rw [if_neg hs, show comesF l S x = rdyB l S x from rfl]
      by_cases hc : rdyB l S x = true
      · obtain ⟨h1, h2, h3⟩ := h x List.mem_cons_self hc
        rw [if_pos hc, h1, Option.bind_some, List.filter_cons_of_pos hc, List.map_cons, List.sum_cons, wrap_id (by omega) (by omega), insL_sum l S rec g r (m + g x) false h' (by omega) (by omega) (Or.inl rfl)]
        congr 1
        omega
      · rw [if_neg hc, List.filter_cons_of_neg hc]
        exact insL_sum l S rec g r m false h' hm (by omega) (Or.inl rfl)
theorem Done.all {l S : List Int} (h : tblB l = true) (D : Done l S) (hl : S.length = (keysZ l).length) : ∀ x ∈ keysZ l, x ∈ S := by
  intro x hx
  by_cases c : x ∈ S
  · exact c
  · have := sub_len (x :: S) (keysZ l) (List.nodup_cons.2 ⟨c, D.nodup⟩) (fun y hy => by
      rcases List.mem_cons.1 hy with rfl | hy
      · exact hx
      · exact D.mem y hy)
    rw [List.length_cons] at this
    omega
theorem Done.left {l S : List Int} (h : tblB l = true) (D : Done l S) (hl : S.length < (keysZ l).length) : ∃ x, x ∈ keysZ l ∧ x ∉ S := by
  obtain ⟨x, hx⟩ := List.exists_mem_of_ne_nil _ (not_done h D hl)
  obtain ⟨h1, h2⟩ := List.mem_filter.1 hx
  rw [rdyB, Bool.and_eq_true] at h2
  exact ⟨x, h1, by simpa using h2.2⟩
theorem Done.one {l S : List Int} (D : Done l S) {x : Int} (hx : x ∈ keysZ l) (hxS : x ∉ S) : Done l (S ++ [x]) := by
  refine ⟨fun y hy => ?_, ?_⟩
  · rcases List.mem_append.1 hy with hy | hy
    · exact D.mem y hy
    · rw [List.mem_singleton.1 hy]; exact hx
  · rw [List.nodup_append]
    exact ⟨D.nodup, by simp, fun a ha b hb e => hxS (by rw [List.mem_singleton] at hb; rw [← hb, ← e]; exact ha)⟩
theorem insV_eq {l : List Int} (h : tblB l = true) (h7 : (keysZ l).length ≤ 7) : ∀ (d : Nat) (S : List Int) (e : Nat), Done l S → S.length + d = (keysZ l).length → d + 1 ≤ e → insV l (keysZ l) e S = some (cn l d S)
  | 0, S, e, D, hl, he => by
    obtain ⟨e, rfl⟩ : ∃ q, e = q + 1 := ⟨e - 1, by omega⟩
    rw [insV, insL_all _ _ _ _ _ _ (D.all h (by omega)), cn]; rfl
  | d + 1, S, e, D, hl, he => by
    obtain ⟨e, rfl⟩ : ∃ q, e = q + 1 := ⟨e - 1, by omega⟩
    rw [insV, cn, if_neg (not_done h D (by omega))]
    rw [insL_sum l S _ (fun x => cn l d (S ++ [x])) (keysZ l) 0 true (fun x hx hr => ?_) (by omega) (by omega) (Or.inr (D.left h (by omega)))]
    · rw [Int.zero_add]
    · have hxS : x ∉ S := by rw [rdyB, Bool.and_eq_true] at hr; simpa using hr.2
      exact ⟨insV_eq h h7 d _ e (D.one hx hxS) (by rw [List.length_append, List.length_singleton]; omega) (by omega), cn_small h7 (by omega) _⟩
theorem prCount_ev {l : List Int} (h : tblB l = true) (h7 : (keysZ l).length ≤ 7) : ∀ (d : Nat) (S : List Int), Done l S → S.length + d = (keysZ l).length → Ev (fun k => spec_prCount.f k l (partOf l S)) (cn l d S) := by
  obtain ⟨h1, h2, h3, h4⟩ := tblB_parts h
  intro d
  induction d with
  | zero =>
    intro S D hl
    refine Ev.step (f := fun k => (spec_prReady.f k l (partOf l S)).bind fun t176 => (if (t176.length : Int) = 0 then (some 1) else (spec_prCount.l0 k (partOf l S) 0 t176 (t176.length : Int) 0 l))) (fun k => rfl) ?_
    refine Ev.bind (prReady_ev h D.nonneg) ?_
    rw [rdy_filter h, all_done h D (by omega)]
    simp only [List.length_nil, Int.natCast_zero, if_true, cn]
    exact Ev.now _
  | succ d ih =>
    intro S D hl
    have hne := not_done h D (by omega)
    rw [cn, if_neg hne]
    refine Ev.step (f := fun k => (spec_prReady.f k l (partOf l S)).bind fun t176 => (if (t176.length : Int) = 0 then (some 1) else (spec_prCount.l0 k (partOf l S) 0 t176 (t176.length : Int) 0 l))) (fun k => rfl) ?_
    refine Ev.bind (prReady_ev h D.nonneg) ?_
    rw [rdy_filter h]
    obtain ⟨r, hr⟩ : ∃ r, r = (keysZ l).filter (rdyB l S) := ⟨_, rfl⟩
    have hrm : ∀ x ∈ r, x ∈ keysZ l ∧ x ∉ S := fun x hx => by
      rw [hr] at hx
      obtain ⟨a1, a2⟩ := List.mem_filter.1 hx
      rw [rdyB, Bool.and_eq_true] at a2
      exact ⟨a1, by simpa using a2.2⟩
    have hrl : r.length ≤ 7 := by
      have := List.length_filter_le (rdyB l S) (keysZ l)
      rw [← hr] at this; omega
    rw [← hr] at hne ⊢
    have hr0 : ¬ (r.length : Int) = 0 := fun e => hne (List.eq_nil_of_length_eq_zero (by omega))
    simp only [if_neg hr0]
    have := Ev.up0 r.length (fun q => ((r.take q).map fun x => cn l d (S ++ [x])).sum) (fun k s q => spec_prCount.l0 k (partOf l S) s r (r.length : Int) q l) ((r.map fun x => cn l d (S ++ [x])).sum) (fun q hq hE => ?_) (Ev.end_ fun k => ?_)
    · simpa using this
    · obtain ⟨hx, hxS⟩ := hrm _ (getD_mem hq)
      have D2 := D.one hx hxS
      have hxe := take_succ_getD hq
      obtain ⟨x, hxd⟩ : ∃ x, x = r.getD q 0 := ⟨_, rfl⟩
      rw [← hxd] at hx hxS D2 hxe
      obtain ⟨i, hi, hie, h0⟩ := key_at hx
      have hb := cn_small h7 (d := d) (by omega) (S ++ [x])
      have hb2 := sum_range (fun x => cn l d (S ++ [x])) 1000000 (by omega) (r.take q) (fun y _ => cn_small h7 (by omega) _)
      have hb3 : (((r.take q).length : Nat) : Int) * 1000000 ≤ 7 * 1000000 := Int.mul_le_mul_of_nonneg_right (by rw [List.length_take]; omega) (by omega)
      have hpl : (partOf l S).length = l.length := part_len l S
      refine Ev.step (f := fun k => (spec_l1Own.f (partOf l S)).bind fun t180 => ((spec_prPlace.f k l x).bind fun t183 => (if 0 ≤ t183 then (if t183 < (t180.length : Int) then ((spec_prCount.f k l (t180.set (t183 : Int).toNat x)).bind fun t185 => (spec_prCount.l0 k (partOf l S) (wrap64 (((r.take q).map fun x => cn l d (S ++ [x])).sum + t185)) r (r.length : Int) ((q + 1 : Nat) : Int) l)) else (none)) else (none)))) (fun k => by
        rw [spec_prCount.l0, if_pos (by omega), if_pos (by omega), if_pos (by omega), rd_nat, ← hxd, wrap_next (n := r.length) hq (by omega)]) ?_
      rw [show spec_l1Own.f (partOf l S) = some (partOf l S) by unfold spec_l1Own.f; first | rfl | rw [if_pos (by omega)] | (simp; omega)]
      simp only [Option.bind_some]
      refine Ev.bind (prPlace_ev l x (by omega)) ?_
      rw [← hie, ix_here h hi (by omega)]
      simp only [if_pos (show (0 : Int) ≤ (i : Int) by omega), if_pos (show (i : Int) < ((partOf l S).length : Int) by rw [part_len]; omega), Int.toNat_natCast]
      rw [part_set h hi (by omega), hie]
      refine Ev.bind (ih (S ++ [x]) D2 (by rw [List.length_append, List.length_singleton]; omega)) ?_
      rw [wrap_id (by omega) (by omega)]
      have e : ((r.take (q + 1)).map fun x => cn l d (S ++ [x])).sum = ((r.take q).map fun x => cn l d (S ++ [x])).sum + cn l d (S ++ [x]) := by
        rw [hxe, List.map_append, List.sum_append]; simp
      rw [e] at hE
      exact hE
    · rw [spec_prCount.l0, if_neg (by omega), List.take_length]
def ciV (l : List Int) : Int × Bool := if tblB l = true then (if 7 < (keysZ l).length then (0, false) else (cn l (keysZ l).length [], true)) else (0, false)
theorem spec_Count_ev (l : List Int) (hn : l.length ≤ 4611686018427387904) : Ev (fun k => spec_CountInsertions.f k l) (ciV l) := by
  unfold spec_CountInsertions.f ciV
  refine Ev.bind (prGood_ev l hn) ?_
  cases h : tblB l with
  | false =>
    simp only [Bool.false_eq_true, if_false]
    exact Ev.end_ fun k => by rw [spec_CountInsertions.j0, if_pos rfl]
  | true =>
    obtain ⟨h1, h2, h3, h4⟩ := tblB_parts h
    simp only [if_true]
    refine Ev.bind (prMany_ev l (by omega)) ?_
    rw [many_keysZ (fun j hj => (h3 j hj).1)]
    by_cases c : 7 < (keysZ l).length
    · rw [if_pos c]
      refine Ev.end_ fun k => ?_
      rw [spec_CountInsertions.j0, if_pos (decide_eq_true (by omega))]
    · rw [if_neg c]
      refine Ev.one (f := fun k => (spec_prEmpty.f k (l.length : Int)).bind fun t194 => ((spec_prCount.f k l t194).bind fun t197 => (some (t197, true)))) ?_ fun k => ?_
      · refine Ev.bind (t_prEmpty_ev l.length (by omega)) ?_
        rw [← part_nil l]
        refine Ev.bind (prCount_ev h (by omega) (keysZ l).length [] (Done.nil l) (by simp)) ?_
        exact Ev.now _
      · rw [spec_CountInsertions.j0, if_neg (by rw [decide_eq_false (by omega)]; decide)]
theorem impl_Count_ev (l : List Int) (hn : l.length ≤ 4611686018427387904) : Ev (fun k => impl_CountInsertions.f k l) (ciV l) := by
  unfold impl_CountInsertions.f ciV
  refine Ev.bind (isTable_ev l hn) ?_
  cases h : tblB l with
  | false => simp only [Bool.false_eq_true, if_false]; exact Ev.now _
  | true =>
    obtain ⟨h1, h2, h3, h4⟩ := tblB_parts h
    have hok : okTab l = true := by
      unfold okTab
      rw [cells_okB h, keys_okB h, decide_eq_true (by omega), decide_eq_true (by omega)]; rfl
    simp only [if_true, if_pos hok]
    by_cases c : 7 < (keysZ l).length
    · rw [if_pos c, if_pos c]; exact Ev.now _
    · rw [if_neg c, if_neg c, insV_eq h (by omega) (keysZ l).length [] 9 (Done.nil l) (by simp) (by omega)]
      exact Ev.now _
theorem sum_pos : ∀ (r : List Int), r ≠ [] → (∀ x ∈ r, 1 ≤ x) → 1 ≤ r.sum
  | [], h, _ => absurd rfl h
  | [x], _, h => by simpa using h x List.mem_cons_self
  | x :: y :: r, _, h => by
    have h1 := h x List.mem_cons_self
    have h2 := sum_pos (y :: r) (by simp) (fun z hz => h z (List.mem_cons_of_mem _ hz))
    rw [List.sum_cons]
    omega
theorem cn_pos (l : List Int) : ∀ (d : Nat) (S : List Int), 1 ≤ cn l d S
  | 0, S => by rw [cn]; omega
  | d + 1, S => by
    rw [cn]
    split
    · omega
    · rename_i hne
      refine sum_pos _ (by simpa using hne) (fun x hx => ?_)
      obtain ⟨y, _, rfl⟩ := List.mem_map.1 hx
      exact cn_pos l d _
theorem ciV_pos {l : List Int} (h : (ciV l).2 = true) : 1 ≤ (ciV l).1 := by
  unfold ciV at h ⊢
  split at h
  · rename_i c
    rw [if_pos c]
    split at h
    · cases h
    · rename_i c2
      rw [if_neg c2]
      exact cn_pos l _ _
  · cases h
theorem rdOf_nat {α : Type} (z : α) (l : List α) (i : Nat) : rdOf z l (i : Int) = l.getD i z := by unfold rdOf; rw [Int.toNat_natCast]
/-- The places that are taken. -/
def tkB (n : Nat) (P : List Nat) : List Bool := (List.range n).map fun p => decide (p ∈ P)
theorem tkB_len (n : Nat) (P : List Nat) : (tkB n P).length = n := by unfold tkB; rw [List.length_map, List.length_range]
theorem tkB_get {n : Nat} (P : List Nat) {p : Nat} (h : p < n) : (tkB n P).getD p false = decide (p ∈ P) := by
  unfold tkB
  rw [List.getD_eq_getElem?_getD, List.getElem?_map, List.getElem?_range h]; rfl
theorem tkB_nil (n : Nat) : tkB n [] = List.replicate n false := by
  unfold tkB
  refine List.ext_getElem (by simp) (fun i _ _ => by simp)
theorem tkB_set {n : Nat} (P : List Nat) {p : Nat} (h : p < n) : (tkB n P).set p true = tkB n (P ++ [p]) := by
  unfold tkB
  refine List.ext_getElem (by simp) (fun i h1 h2 => ?_)
  rw [List.getElem_set]
  by_cases c : p = i
  · rw [if_pos c]; simp [c]
  · rw [if_neg c]
    have c2 : i ≠ p := fun e => c e.symm
    simp [c2]
end Go.Proofs.YteakjjimkagmkaaGreatDoor.Pure
namespace Go.Proofs.YteakjjimkagmkaaGreatDoor.Pure
open Go.RowKit Go.Proofs.YteakjjimkagmkaaGreatDoor.G Go.Proofs.YteakjjimkagmkaaGreatDoorW.PrintWords Go.Proofs.YteakjjimkagmkaaGreatDoorW.PrintLast
section
variable {n : Nat} {F : List Int} {fv pl : Int → Nat} (R : Rides n F fv pl) (hn : n ≤ 12) (hF : F.length ≤ 100)
include R hn hF
theorem drive_l1 (q : Nat) (hq : q < F.length) (r : List Int × Bool) (x13 : List Int) (x14 : Int)
    (next : Ev (fun k => impl_drive.l0 k (n : Int) (tkB n ((F.take (q + 1)).map pl)) ((F.take (q + 1)).map fun x => ((pl x : Nat) : Int)) x13 x14 ((q + 1 : Nat) : Int)) r) :
    ∀ (d p : Nat), p + d = pl (F.getD q 0) → fv (F.getD q 0) ≤ p →
      Ev (fun k => impl_drive.l1 k (n : Int) (tkB n ((F.take q).map pl)) ((F.take q).map fun x => ((pl x : Nat) : Int)) (p : Int) x13 x14 (q : Int)) r := by
  have hfit := R.fits q hq
  have hs : F.take (q + 1) = F.take q ++ [F.getD q 0] := take_succ_getD hq
  rw [hs, List.map_append, List.map_append, List.map_singleton, List.map_singleton, ← tkB_set _ hfit] at next
  intro d
  induction d with
  | zero =>
    intro p hp hfp
    obtain rfl : p = pl (F.getD q 0) := by omega
    have hfree : decide (pl (F.getD q 0) ∈ (F.take q).map pl) = false := by
      rw [decide_eq_false_iff_not, List.mem_map]
      rintro ⟨y, hy, e⟩
      exact R.free q hq y hy e
    refine Ev.one next fun k => ?_
    rw [impl_drive.l1, if_pos (by omega), if_pos (by omega), if_pos (by rw [tkB_len]; omega), rdOf_nat, tkB_get _ hfit, hfree, if_neg (by decide), if_neg (by omega), if_pos (by rw [List.length_map, List.length_take]; omega), Int.toNat_natCast, wrap_next (n := F.length) hq (by omega)]
  | succ d ih =>
    intro p hp hfp
    have hpn : p < n := by omega
    have hfull : decide (p ∈ (F.take q).map pl) = true := by
      rw [decide_eq_true_iff, List.mem_map]
      exact R.full q hq p hfp (by omega)
    refine Ev.one (ih (p + 1) (by omega) (by omega)) fun k => ?_
    rw [impl_drive.l1, if_pos (by omega), if_pos (by omega), if_pos (by rw [tkB_len]; omega), rdOf_nat, tkB_get _ hpn, hfull, if_pos rfl, wrap_next (n := n) hpn (by omega)]
theorem drive_ev : Ev (fun k => impl_drive.f k (F.map fun x => ((fv x : Nat) : Int)) (n : Int)) (F.map fun x => ((pl x : Nat) : Int), true) := by
  unfold impl_drive.f
  simp only [show (0 : Int) ≤ (n : Int) by omega, Int.toNat_natCast, show n ≤ 281474976710656 by omega, if_true]
  have loop : ∀ (d q : Nat), q + d = F.length → Ev (fun k => impl_drive.l0 k (n : Int) (tkB n ((F.take q).map pl)) ((F.take q).map fun x => ((pl x : Nat) : Int)) (F.map fun x => ((fv x : Nat) : Int)) ((F.map fun x => ((fv x : Nat) : Int)).length : Int) (q : Int)) (F.map fun x => ((pl x : Nat) : Int), true) := by
    intro d
    induction d with
    | zero =>
      intro q hq
      refine Ev.end_ fun k => ?_
      rw [impl_drive.l0, if_neg (by rw [List.length_map]; omega), List.take_of_length_le (by omega)]
    | succ d ih =>
      intro q hq
      have hql : q < F.length := by omega
      have hg : (F.map fun x => ((fv x : Nat) : Int)).getD q 0 = ((fv (F.getD q 0) : Nat) : Int) := by
        rw [getD_get (by rw [List.length_map]; exact hql), List.getElem_map, getD_get hql]
      have hle := R.from_ q hql
      refine Ev.one (drive_l1 R hn hF q hql _ _ _ (ih (q + 1) (by omega)) (pl (F.getD q 0) - fv (F.getD q 0)) (fv (F.getD q 0)) (by omega) (Nat.le_refl _)) fun k => ?_
      rw [impl_drive.l0, if_pos (by rw [List.length_map]; omega), if_pos (by omega), if_pos (by rw [List.length_map]; omega), rd_nat, hg]
  have := loop F.length 0 (by omega)
  rw [List.take_zero, List.map_nil, List.map_nil, tkB_nil] at this
  exact this
theorem dist_ev (hc : F.length ≤ 8) (hn1 : 1 ≤ n) : Ev (fun k => impl_DistancesOf.f k (F.map fun x => ((fv x : Nat) : Int)) (n : Int)) (F.map fun x => ((pl x : Nat) : Int) - ((fv x : Nat) : Int), true) := by
  have hlt : ∀ x ∈ F, fv x ≤ pl x ∧ pl x < n := fun x hx => by
    obtain ⟨q, hq, e⟩ := List.getElem_of_mem hx
    have h1 := R.from_ q hq
    have h2 := R.fits q hq
    rw [getD_get hq, e] at h1 h2
    exact ⟨h1, h2⟩
  have hb : impl_between.f (n : Int) 1 12 = some true := by
    unfold impl_between.f
    rw [if_pos (by omega), decide_eq_true (by omega)]
  have hab : impl_areBetween.f (F.map fun x => ((fv x : Nat) : Int)) 0 (wrap64 ((n : Int) - 1)) = some true := by
    rw [wrap_id (by omega) (by omega)]
    unfold impl_areBetween.f
    rw [Option.some.injEq, List.all_eq_true]
    intro y hy
    obtain ⟨x, hx, rfl⟩ := List.mem_map.1 hy
    have := hlt x hx
    rw [Bool.and_eq_true, decide_eq_true_iff, decide_eq_true_iff]
    omega
  have hfav : impl_AreFavourites.f (F.map fun x => ((fv x : Nat) : Int)) (n : Int) = some true := by
    unfold impl_AreFavourites.f
    rw [hb, Option.bind_some, if_pos rfl, if_pos (by rw [List.length_map]; omega), hab]
    rfl
  have hd : Ev (fun k => impl_DriveCars.f k (F.map fun x => ((fv x : Nat) : Int)) (n : Int)) (F.map fun x => ((pl x : Nat) : Int), true) := by
    unfold impl_DriveCars.f
    simp only [hfav, Option.bind_some, if_true]
    exact Ev.bind (drive_ev R hn hF) (Ev.now _)
  unfold impl_DistancesOf.f
  refine Ev.bind hd ?_
  simp only [List.length_map]
  have loop : ∀ (d q : Nat), q + d = F.length → Ev (fun k => impl_DistancesOf.l0 k (F.map fun x => ((fv x : Nat) : Int)) (((F.take q).map fun x => ((pl x : Nat) : Int) - ((fv x : Nat) : Int)) ++ (F.drop q).map fun x => ((pl x : Nat) : Int)) true (F.length : Int) (q : Int)) (F.map fun x => ((pl x : Nat) : Int) - ((fv x : Nat) : Int), true) := by
    intro d
    induction d with
    | zero =>
      intro q hq
      refine Ev.end_ fun k => ?_
      rw [impl_DistancesOf.l0, if_neg (by omega), List.take_of_length_le (by omega), List.drop_of_length_le (by omega), List.map_nil, List.append_nil]
    | succ d ih =>
      intro q hq
      have hql : q < F.length := by omega
      have hx := hlt (F.getD q 0) (getD_mem hql)
      have hg : (F.map fun x => ((fv x : Nat) : Int)).getD q 0 = ((fv (F.getD q 0) : Nat) : Int) := by
        rw [getD_get (by rw [List.length_map]; exact hql), List.getElem_map, getD_get hql]
      have hlen : ((F.take q).map fun x => ((pl x : Nat) : Int) - ((fv x : Nat) : Int)).length = q := by rw [List.length_map, List.length_take]; omega
      have hg2 : (((F.take q).map fun x => ((pl x : Nat) : Int) - ((fv x : Nat) : Int)) ++ (F.drop q).map fun x => ((pl x : Nat) : Int)).getD q 0 = ((pl (F.getD q 0) : Nat) : Int) := by
        rw [List.getD_eq_getElem?_getD, List.getElem?_append_right (by omega), hlen, Nat.sub_self, drop_getD hql, List.map_cons]; rfl
      have hset : (((F.take q).map fun x => ((pl x : Nat) : Int) - ((fv x : Nat) : Int)) ++ (F.drop q).map fun x => ((pl x : Nat) : Int)).set q (((pl (F.getD q 0) : Nat) : Int) - ((fv (F.getD q 0) : Nat) : Int)) =
          ((F.take (q + 1)).map fun x => ((pl x : Nat) : Int) - ((fv x : Nat) : Int)) ++ (F.drop (q + 1)).map fun x => ((pl x : Nat) : Int) := by
        rw [List.set_append_right _ _ (by omega), hlen, Nat.sub_self, drop_getD hql, List.map_cons, List.set_cons_zero, take_succ_getD hql, List.map_append, List.map_singleton, List.append_assoc, List.singleton_append]
      refine Ev.one (ih (q + 1) (by omega)) fun k => ?_
      rw [impl_DistancesOf.l0, if_pos (by omega), if_pos (by omega), if_pos (by rw [List.length_append, hlen, List.length_map, List.length_drop]; omega), if_pos (by rw [List.length_map]; omega), rd_nat, rd_nat, hg, hg2, wrap_id (by omega) (by omega), Int.toNat_natCast, hset, wrap_next (n := F.length) hql (by omega)]
  have := loop F.length 0 (by omega)
  rw [List.take_zero, List.map_nil, List.nil_append, List.drop_zero] at this
  exact this
end
end Go.Proofs.YteakjjimkagmkaaGreatDoor.Pure
namespace Go.Proofs.YteakjjimkagmkaaGreatDoor.G
open Go.RowKit Go.Proofs.YteakjjimkagmkaaGreatDoorW.PrintWords Go.Proofs.YteakjjimkagmkaaGreatDoorW.PrintLast Go.Proofs.YteakjjimkagmkaaGreatDoorW.PrintMore
def Bytes (l : List Int) : Prop := ∀ x ∈ l, 0 ≤ x ∧ x ≤ 255
theorem bytes_of {l : List Int} (h : ∀ x ∈ l, (Lit.int .u8 x).wf = true) : Bytes l := by
  intro x hx
  have h2 := h x hx
  simp only [Lit.wf, Bool.and_eq_true, decide_eq_true_eq] at h2
  have e1 : IntKind.u8.min = 0 := by decide
  have e2 : IntKind.u8.max = 255 := by decide
  rw [e1, e2] at h2
  exact h2
theorem Bytes.get {l : List Int} (h : Bytes l) (j : Nat) : 0 ≤ l.getD j 0 ∧ l.getD j 0 ≤ 255 := by
  rcases Nat.lt_or_ge j l.length with hj | hj
  · exact h _ (by rw [List.getD_eq_getElem?_getD, List.getElem?_eq_getElem hj]; exact List.getElem_mem hj)
  · rw [List.getD_eq_getElem?_getD, List.getElem?_eq_none hj]; simp
theorem and255 (x : Int) : 0 ≤ Go.bits .and .u64 x 255 ∧ Go.bits .and .u64 x 255 ≤ 255 := by
  obtain ⟨a, ha⟩ : ∃ a : BitVec 64, a = BitVec.ofInt 64 x := ⟨_, rfl⟩
  have e : Go.bits .and .u64 x 255 = IntKind.u64.wrap ((BitVec.ofInt 64 x &&& BitVec.ofInt 64 255).toNat : Int) := rfl
  have hle : (BitVec.ofInt 64 x &&& BitVec.ofInt 64 255).toNat ≤ 255 := by
    rw [BitVec.toNat_and]
    exact Nat.le_trans Nat.and_le_right (by decide)
  rw [e, IntKind.wrap_u64]
  omega
theorem next_ok {l : List Int} (hb : Bytes l) (p s : Int) (h0 : 0 ≤ p) (h1 : p ≤ 1000000000000000000) : ∃ v s', spec_l1Cur_next.f l p s = some (v, p + 1, s') ∧ 0 ≤ v ∧ v ≤ 255 := by
  have hw : wrap64 (p + 1) = p + 1 := wrap_id (by omega) (by omega)
  have hr : 0 ≤ rd l p ∧ rd l p ≤ 255 := hb.get _
  unfold spec_l1Cur_next.f
  rw [hw]
  by_cases c1 : p < (l.length : Int)
  · rw [if_pos c1, if_pos h0]
    by_cases c2 : p + 1 ≤ (l.length : Int)
    · rw [if_pos c2]
      exact ⟨_, _, rfl, by rw [wrap_id (by omega) (by omega)]; exact hr⟩
    · omega
  · rw [if_neg c1]
    rw [if_neg (by omega)]
    refine ⟨_, _, rfl, ?_⟩
    have := and255 ((IntKind.u64.wrap ((IntKind.u64.wrap (IntKind.u64.wrap (s * 6364136223846793005))) + 1442695040888963407)) / 1099511627776)
    rw [wrap_id (by omega) (by omega)]
    exact this
theorem tmod_ok {v a : Int} (hv : 0 ≤ v) (ha : 0 < a) : 0 ≤ Int.tmod v a ∧ Int.tmod v a < a := by
  rw [Int.tmod_eq_emod_of_nonneg hv]
  exact ⟨Int.emod_nonneg _ (by omega), Int.emod_lt_of_pos _ ha⟩
theorem pick_ok {l : List Int} (hb : Bytes l) (p s a : Int) (h0 : 0 ≤ p) (h1 : p ≤ 100000000000000000) : ∃ r p' s', spec_l1Cur_pick.f l p s a = some (r, p', s') ∧ 0 ≤ r ∧ (r < a ∨ r = 0) ∧ p ≤ p' ∧ p' ≤ p + 2 := by
  unfold spec_l1Cur_pick.f
  by_cases c1 : a ≤ 1
  · rw [if_pos c1]
    exact ⟨0, p, s, rfl, by omega, Or.inr rfl, by omega, by omega⟩
  · rw [if_neg c1]
    obtain ⟨v, s1, e1, b1, b2⟩ := next_ok hb p s h0 (by omega)
    rw [e1, Option.bind_some]
    by_cases c2 : a > 200
    · rw [if_pos c2]
      obtain ⟨v2, s2, e2, b3, b4⟩ := next_ok hb (p + 1) s1 (by omega) (by omega)
      simp only [e2, Option.bind_some]
      rw [if_neg (by omega)]
      have hw : wrap64 (wrap64 (v * 256) + v2) = v * 256 + v2 := by rw [wrap_id (x := v * 256) (by omega) (by omega), wrap_id (by omega) (by omega)]
      have := tmod_ok (v := v * 256 + v2) (a := a) (by omega) (by omega)
      rw [hw]
      exact ⟨_, _, _, rfl, this.1, Or.inl this.2, by omega, by omega⟩
    · rw [if_neg c2, if_neg (by omega)]
      have := tmod_ok (v := v) (a := a) (by omega) (by omega)
      exact ⟨_, _, _, rfl, this.1, Or.inl this.2, by show p ≤ p + 1; omega, by show p + 1 ≤ p + 2; omega⟩
theorem among_ok {l : List Int} (hb : Bytes l) (p s : Int) (q : List Int) (hq : 0 < q.length) (h0 : 0 ≤ p) (h1 : p ≤ 100000000000000000) : ∃ v p' s', spec_l1Cur_among.f l p s q = some (v, p', s') ∧ p ≤ p' ∧ p' ≤ p + 2 := by
  obtain ⟨r, p', s', e, b1, b2, b3, b4⟩ := pick_ok hb p s (q.length : Int) h0 h1
  unfold spec_l1Cur_among.f
  rw [e, Option.bind_some]
  simp only [b1, if_true]
  rw [if_pos (by omega)]
  exact ⟨_, _, _, rfl, b3, b4⟩
theorem one_ok {l : List Int} (hb : Bytes l) (p s a : Int) (h0 : 0 ≤ p) (h1 : p ≤ 100000000000000000) : ∃ v p' s', spec_l1Cur_one.f l p s a = some (v, p', s') ∧ p ≤ p' ∧ p' ≤ p + 2 := by
  obtain ⟨r, p', s', e, b1, b2, b3, b4⟩ := pick_ok hb p s a h0 h1
  unfold spec_l1Cur_one.f
  rw [e, Option.bind_some]
  exact ⟨_, _, _, rfl, b3, b4⟩
theorem big_eq (a b : List Int) : ∃ r, laws_big.f a b = some r := by
  unfold laws_big.f
  split
  · exact ⟨_, rfl⟩
  · exact ⟨_, rfl⟩
theorem keys_l0 {l : List Int} (hb : Bytes l) (S : Int) : ∀ (d : Nat) (x : List Int) (p s : Int), x.length + d ≤ 20 → 0 ≤ p → p + 8 * d ≤ 1000000000000000 →
    ∃ size out p' s', Ev (fun k => spec_l1Cur_keys.l0 k S x (d : Int) l p s) (size, out, p', s') ∧ out.length ≤ 21 ∧ 0 ≤ p' ∧ p' ≤ p + 8 * d + 8 := by
  intro d
  induction d with
  | zero =>
    intro x p s hx h0 h1
    obtain ⟨r, p1, s1, e1, b1, b2, b3, b4⟩ := pick_ok hb p s 24 h0 (by omega)
    by_cases c0 : r = 0
    · obtain ⟨v, p2, s2, e2, b5, b6⟩ := among_ok hb p1 s1 [-1, 999, 1000] (by simp) (by omega) (by omega)
      refine ⟨S, x ++ [v], p2, s2, Ev.end_ fun k => ?_, by simp; omega, by omega, by omega⟩
      rw [spec_l1Cur_keys.l0, if_neg (by omega), e1, Option.bind_some]
      simp only [c0, if_true]
      rw [e2, Option.bind_some, if_pos (by omega)]
    · by_cases c1 : r = 1
      · obtain ⟨v, p2, s2, e2, b5, b6⟩ := among_ok hb p1 s1 [0, 1, -1, 12, 13] (by simp) (by omega) (by omega)
        refine ⟨v, x, p2, s2, Ev.end_ fun k => ?_, by omega, by omega, by omega⟩
        rw [spec_l1Cur_keys.l0, if_neg (by omega), e1, Option.bind_some]
        subst c1
        rw [if_neg (show ¬ (1 : Int) = 0 by decide), if_pos rfl, e2, Option.bind_some]
      · refine ⟨S, x, p1, s1, Ev.end_ fun k => ?_, by omega, by omega, by omega⟩
        rw [spec_l1Cur_keys.l0, if_neg (by omega), e1, Option.bind_some]
        simp only [c0, c1, if_false]
  | succ d ih =>
    intro x p s hx h0 h1
    obtain ⟨v, p1, s1, e1, b1, b2⟩ := among_ok hb p s [12, 40, 1000] (by simp) h0 (by omega)
    obtain ⟨r, p2, s2, e2, b3, b4, b5, b6⟩ := pick_ok hb p1 s1 v (by omega) (by omega)
    have hw : wrap64 (((d + 1 : Nat) : Int) - 1) = (d : Int) := by rw [wrap_id (by omega) (by omega)]; omega
    by_cases c : r ∈ x
    · obtain ⟨b, p3, s3, e3, b7, b8⟩ := one_ok hb p2 s2 20 (by omega) (by omega)
      cases b with
      | true =>
        obtain ⟨size, out, p', s', he, ho, q1, q2⟩ := ih (x ++ [r]) p3 s3 (by simp; omega) (by omega) (by omega)
        refine ⟨size, out, p', s', ?_, ho, q1, by omega⟩
        refine Ev.step (f := fun k => (spec_l1Has.f k x r).bind fun t571 => (if t571 = true then (spec_l1Cur_keys.l0 k S (x ++ [r]) (d : Int) l p3 s3) else (spec_l1Cur_keys.l0 k S (x ++ [r]) (d : Int) l p2 s2))) (fun k => by
          rw [spec_l1Cur_keys.l0, if_pos (by omega), e1, Option.bind_some, e2, Option.bind_some]
          simp only [e3, Option.bind_some, if_true, hw]
          rw [if_pos (by omega), if_pos (by omega)]) ?_
        refine Ev.bind (l1Has_ev x r (by omega)) ?_
        simp only [c, decide_true, if_true]
        exact he
      | false =>
        obtain ⟨size, out, p', s', he, ho, q1, q2⟩ := ih x p3 s3 (by omega) (by omega) (by omega)
        refine ⟨size, out, p', s', ?_, ho, q1, by omega⟩
        refine Ev.step (f := fun k => (spec_l1Has.f k x r).bind fun t571 => (if t571 = true then (spec_l1Cur_keys.l0 k S x (d : Int) l p3 s3) else (spec_l1Cur_keys.l0 k S (x ++ [r]) (d : Int) l p2 s2))) (fun k => by
          rw [spec_l1Cur_keys.l0, if_pos (by omega), e1, Option.bind_some, e2, Option.bind_some]
          simp only [e3, Option.bind_some, Bool.false_eq_true, if_false, hw]
          rw [if_pos (by omega)]) ?_
        refine Ev.bind (l1Has_ev x r (by omega)) ?_
        simp only [c, decide_true, if_true]
        exact he
    · obtain ⟨size, out, p', s', he, ho, q1, q2⟩ := ih (x ++ [r]) p2 s2 (by simp; omega) (by omega) (by omega)
      refine ⟨size, out, p', s', ?_, ho, q1, by omega⟩
      obtain ⟨b, p3, s3, e3, b7, b8⟩ := one_ok hb p2 s2 20 (by omega) (by omega)
      refine Ev.step (f := fun k => (spec_l1Has.f k x r).bind fun t571 => (if t571 = true then (if b = true then (spec_l1Cur_keys.l0 k S (x ++ [r]) (d : Int) l p3 s3) else (spec_l1Cur_keys.l0 k S x (d : Int) l p3 s3)) else (spec_l1Cur_keys.l0 k S (x ++ [r]) (d : Int) l p2 s2))) (fun k => by
        rw [spec_l1Cur_keys.l0, if_pos (by omega), e1, Option.bind_some, e2, Option.bind_some]
        simp only [e3, Option.bind_some, hw, show x.length < 17592186044416 by omega, if_true]) ?_
      refine Ev.bind (l1Has_ev x r (by omega)) ?_
      simp only [c, decide_false, Bool.false_eq_true, if_false]
      exact he
theorem keys_ok {l : List Int} (hb : Bytes l) (p s : Int) (h0 : 0 ≤ p) (h1 : p ≤ 10000000000) : ∃ size out p' s', Ev (fun k => spec_l1Cur_keys.f k l p s) (size, out, p', s') ∧ out.length ≤ 21 ∧ 0 ≤ p' ∧ p' ≤ p + 200 := by
  have many : ∃ v p1 s1, spec_l1Cur_among.f l p s [4, 7, 11] = some (v, p1, s1) ∧ v ≤ 11 ∧ p ≤ p1 ∧ p1 ≤ p + 2 := by
    obtain ⟨r, p1, s1, e1, b1, b2, b3, b4⟩ := pick_ok hb p s 3 h0 (by omega)
    refine ⟨rd [4, 7, 11] r, p1, s1, ?_, ?_, b3, b4⟩
    · unfold spec_l1Cur_among.f
      rw [show (([4, 7, 11] : List Int).length : Int) = 3 by rfl, e1, Option.bind_some]
      simp only [b1, if_true]
      rw [if_pos (by omega)]
    · obtain ⟨q, rfl⟩ : ∃ q : Nat, r = q := ⟨r.toNat, by omega⟩
      have : q = 0 ∨ q = 1 ∨ q = 2 := by omega
      rcases this with rfl | rfl | rfl <;> decide
  obtain ⟨v, p1, s1, e1, hv, b1, b2⟩ := many
  obtain ⟨r, p2, s2, e2, b3, b4, b5, b6⟩ := pick_ok hb p1 s1 v (by omega) (by omega)
  have hw1 : wrap64 (2 + r) = 2 + r := wrap_id (by omega) (by omega)
  have hw2 : wrap64 (2 + r + 1) = 2 + r + 1 := wrap_id (by omega) (by omega)
  obtain ⟨n, p3, s3, e3, b7, b8, b9, b10⟩ := pick_ok hb p2 s2 (2 + r + 1) (by omega) (by omega)
  obtain ⟨size, out, p', s', he, ho, q1, q2⟩ := keys_l0 hb (2 + r) n.toNat [] p3 s3 (by simp; omega) (by omega) (by omega)
  refine ⟨size, out, p', s', ?_, ho, q1, by omega⟩
  unfold spec_l1Cur_keys.f
  rw [show (n.toNat : Int) = n by omega] at he
  simp only [e1, Option.bind_some, e2, hw1, hw2, e3]
  exact he
theorem table_j0 {l : List Int} (hb : Bytes l) (n : Nat) (h2 : 2 ≤ n) (t : List Int) (ht : t.length = n) (p s : Int) (h0 : 0 ≤ p) (h1 : p ≤ 100000000000) : ∃ out p' s', Ev (fun k => spec_l1Cur_table.j0 k (n : Int) l p s t) (out, p', s') ∧ out.length = n ∧ 0 ≤ p' ∧ p' ≤ p + 10 := by
  obtain ⟨b, p1, s1, e1, b1, b2⟩ := one_ok hb p s 12 h0 (by omega)
  cases b with
  | true =>
    obtain ⟨r, p2, s2, e2, b3, b4, b5, b6⟩ := pick_ok hb p1 s1 (n : Int) (by omega) (by omega)
    obtain ⟨v, p3, s3, e3, b7, b8⟩ := among_ok hb p2 s2 [-1, -2, 0, 5, 1000] (by simp) (by omega) (by omega)
    refine ⟨t.set r.toNat v, p3, s3, Ev.end_ fun k => ?_, by simpa using ht, by omega, by omega⟩
    rw [spec_l1Cur_table.j0, e1, Option.bind_some]
    simp only [if_true, e2, Option.bind_some, e3]
    rw [if_pos b3, if_pos (by omega)]
  | false =>
    refine ⟨t, p1, s1, Ev.end_ fun k => ?_, ht, by omega, by omega⟩
    rw [spec_l1Cur_table.j0, e1, Option.bind_some]
    simp only [Bool.false_eq_true, if_false]
theorem table_ok {l : List Int} (hb : Bytes l) (p s : Int) (h0 : 0 ≤ p) (h1 : p ≤ 10000000000) : ∃ out p' s', Ev (fun k => spec_l1Cur_table.f k l p s) (out, p', s') ∧ out.length ≤ 21 ∧ 0 ≤ p' ∧ p' ≤ p + 300 := by
  obtain ⟨size, ks, p1, s1, he, ho, q1, q2⟩ := keys_ok hb p s h0 h1
  cases hv : keysB ks size with
  | false =>
    refine ⟨ks, p1, s1, ?_, ho, q1, by omega⟩
    unfold spec_l1Cur_table.f
    refine Ev.bind he ?_
    refine Ev.bind (prKeys_ev ks size (by omega)) ?_
    simp only [hv, Bool.false_eq_true, if_false]
    exact Ev.now _
  | true =>
    obtain ⟨h1', h2', h3', h4', h5'⟩ := keysB_parts hv
    obtain ⟨n, rfl⟩ : ∃ n : Nat, size = n := ⟨size.toNat, by omega⟩
    obtain ⟨b, p2, s2, e2, b1, b2⟩ := one_ok hb p1 s1 3 q1 (by omega)
    have F1 := filled (n := n) ks (by omega) h4' ks.length (Nat.le_refl _)
    have F2 := rfilled (n := n) (by omega) ks (by omega) h4' h5' ks.length (Nat.le_refl _)
    rw [List.take_length] at F1 F2
    obtain ⟨o1, p3, s3, f1, g1, g2, g3⟩ := table_j0 hb n (by omega) _ F1.len_ p2 s2 (by omega) (by omega)
    obtain ⟨o2, p4, s4, f2, g4, g5, g6⟩ := table_j0 hb n (by omega) _ F2.len_ p2 s2 (by omega) (by omega)
    cases b with
    | true =>
      refine ⟨o2, p4, s4, ?_, by omega, g5, by omega⟩
      unfold spec_l1Cur_table.f
      refine Ev.bind he ?_
      refine Ev.bind (prKeys_ev ks (n : Int) (by omega)) ?_
      simp only [hv, if_true]
      refine Ev.bind (prOf_ev n ks (by omega) (by omega) (by omega) h4') ?_
      simp only [e2, Option.bind_some, if_true]
      refine Ev.bind (prRobin_ev n ks (by omega) (by omega) (by omega) h4' h5') ?_
      exact f2
    | false =>
      refine ⟨o1, p3, s3, ?_, by omega, g2, by omega⟩
      unfold spec_l1Cur_table.f
      refine Ev.bind he ?_
      refine Ev.bind (prKeys_ev ks (n : Int) (by omega)) ?_
      simp only [hv, if_true]
      refine Ev.bind (prOf_ev n ks (by omega) (by omega) (by omega) h4') ?_
      simp only [e2, Option.bind_some, Bool.false_eq_true, if_false]
      exact f1
theorem DrawIsTable_ok {l : List Int} (hb : Bytes l) : ∃ t, Ev (fun k => spec_DrawIsTable.f k l) t ∧ t.length ≤ 21 := by
  obtain ⟨out, p', s', he, ho, q1, q2⟩ := table_ok hb 0 0 (by omega) (by omega)
  refine ⟨out, ?_, ho⟩
  unfold spec_DrawIsTable.f
  exact Ev.bind he (Ev.now _)
theorem t_jSame_ev (a b : List Int) (hn : a.length ≤ 1000000) : Ev (fun k => laws_jSame.f k a b) (decide (a = b)) := by
  unfold laws_jSame.f
  by_cases h : a.length = b.length
  · have e : ((a.length : Int) = (b.length : Int)) = True := eq_true (by omega)
    simp only [e, if_true]
    have := same_loop laws_jSame.l0 (fun k x0 x1 x12 x13 => by rw [laws_jSame.l0]) a b h hn a.length 0 (by omega)
    simpa using this
  · have e : ((a.length : Int) = (b.length : Int)) = False := eq_false (by omega)
    simp only [e, if_false]
    rw [decide_eq_false (fun e2 => h (by rw [e2]))]
    exact Ev.now _
theorem t_jTable_ev (a b : List Int) (hn : a.length ≤ 1000000) : Ev (fun k => laws_jTable.f k a b) (decide (a = b)) := by
  unfold laws_jTable.f
  exact Ev.bind (t_jSame_ev a b hn) (Ev.now _)
end Go.Proofs.YteakjjimkagmkaaGreatDoor.G
namespace Go.Proofs.YteakjjimkagmkaaGreatDoor.Pure
open Go.RowKit Go.Proofs.YteakjjimkagmkaaGreatDoor.G Go.Proofs.YteakjjimkagmkaaGreatDoorW.PrintWords Go.Proofs.YteakjjimkagmkaaGreatDoorW.PrintLast
theorem ext_size (s : ByteArray) (a b : Nat) (hb : b ≤ s.size) : (s.extract a b).size = b - a := by
  rw [ByteArray.size_extract]; omega
theorem app_size (a b : ByteArray) : (a ++ b).size = a.size + b.size := ByteArray.size_append
theorem one_size (x : Int) : (strOfNums [x]).size = 1 := by
  simp [strOfNums, ByteArray.size]
set_option maxHeartbeats 8000000 in
theorem spoilt_l0 {l : List Int} (hb : Bytes l) (x2 : ByteArray) (h2 : 0 < x2.size ∧ x2.size ≤ 100) : ∀ (d : Nat) (x1 : ByteArray) (p s : Int), d ≤ 2 → x1.size + d ≤ 1000 → 0 ≤ p → p + 6 * (d : Int) ≤ 1000000 →
    ∃ out p' s', Ev (fun k => spec_l1Cur_spoilt.l0 k x1 x2 (d : Int) l p s) (out, p', s') ∧ out.size ≤ 1000 := by
  intro d
  induction d with
  | zero =>
    intro x1 p s hd hx hp hq
    refine ⟨x1, p, s, ?_, by omega⟩
    refine Ev.step (f := fun k => spec_l1Cur_spoilt.j1 k x1 x2 ((0 : Nat) : Int) false l p s) (fun k => by rw [spec_l1Cur_spoilt.l0, if_neg (by omega)]) ?_
    exact Ev.end_ fun k => by rw [spec_l1Cur_spoilt.j1, if_neg (by decide)]
  | succ d ih =>
    intro x1 p s hd hx hp hq
    by_cases hs : (x1.size : Int) > 0
    · obtain ⟨r, p1, s1, e1, b1, b2, b3, b4⟩ := pick_ok hb p s (x1.size : Int) hp (by omega)
      obtain ⟨v, p2, s2, e2, c1, c2, c3, c4⟩ := pick_ok hb p1 s1 (x2.size : Int) (by omega) (by omega)
      obtain ⟨z, p3, s3, e3, d1, d2, d3, d4⟩ := pick_ok hb p2 s2 3 (by omega) (by omega)
      obtain ⟨i, rfl⟩ : ∃ i : Nat, r = i := ⟨r.toNat, by omega⟩
      have hi : i < x1.size := by omega
      have hn : Aside0 (wrap64 ((i : Int) + 1) = ((i + 1 : Nat) : Int)) := ⟨by rw [wrap_id (by omega) (by omega)]; rfl⟩
      have hdn : Aside0 (wrap64 (((d + 1 : Nat) : Int) - 1) = (d : Int)) := ⟨by rw [wrap_id (by omega) (by omega)]; omega⟩
      have sz1 : (x1.extract 0 i).size = i := by rw [ext_size _ _ _ (by omega)]; omega
      have sz2 : (x1.extract i x1.size).size = x1.size - i := ext_size _ _ _ (Nat.le_refl _)
      have sz3 : (x1.extract (i + 1) x1.size).size = x1.size - (i + 1) := ext_size _ _ _ (Nat.le_refl _)
      have sw := one_size (bt x2 v)
      replace e1 := Aside0.mk e1
      replace e2 := Aside0.mk e2
      replace e3 := Aside0.mk e3
      by_cases z0 : z = 0
      · obtain ⟨out, p', s', h, ho⟩ := ih (((x1.extract 0 i) ++ (strOfNums [bt x2 v])) ++ (x1.extract i x1.size)) p3 s3 (by omega) (by rw [app_size, app_size, sz1, sz2, sw]; omega) (by omega) (by omega)
        refine ⟨out, p', s', ?_, ho⟩
        refine Ev.step (f := fun k => spec_l1Cur_spoilt.j1 k x1 x2 ((d + 1 : Nat) : Int) true l p s) (fun k => by rw [spec_l1Cur_spoilt.l0, if_pos (by omega), decide_eq_true hs]) ?_
        refine Ev.one h fun k => ?_
        rw [spec_l1Cur_spoilt.j1, if_pos rfl, e1.out, Option.bind_some]
        simp only [e2.out, Option.bind_some, e3.out]
        rw [if_pos c1, if_pos (by omega), if_pos z0, if_pos b1, if_pos (by omega), Int.toNat_natCast, if_pos (by rw [sz1, sw]; omega), if_pos (by rw [app_size, sz1, sw, sz2]; omega), hdn.out]
      · by_cases z1 : z = 1
        · obtain ⟨out, p', s', h, ho⟩ := ih (((x1.extract 0 i) ++ (strOfNums [bt x2 v])) ++ (x1.extract (i + 1) x1.size)) p3 s3 (by omega) (by rw [app_size, app_size, sz1, sz3, sw]; omega) (by omega) (by omega)
          refine ⟨out, p', s', ?_, ho⟩
          refine Ev.step (f := fun k => spec_l1Cur_spoilt.j1 k x1 x2 ((d + 1 : Nat) : Int) true l p s) (fun k => by rw [spec_l1Cur_spoilt.l0, if_pos (by omega), decide_eq_true hs]) ?_
          refine Ev.one h fun k => ?_
          rw [spec_l1Cur_spoilt.j1, if_pos rfl, e1.out, Option.bind_some]
          simp only [e2.out, Option.bind_some, e3.out]
          rw [if_pos c1, if_pos (by omega), if_neg z0, if_pos z1, if_pos b1, if_pos (by omega), Int.toNat_natCast, if_pos (by rw [sz1, sw]; omega), hn.out, if_pos (by omega), if_pos (by omega), Int.toNat_natCast, if_pos (by rw [app_size, sz1, sw, sz3]; omega), hdn.out]
        · obtain ⟨out, p', s', h, ho⟩ := ih ((x1.extract 0 i) ++ (x1.extract (i + 1) x1.size)) p3 s3 (by omega) (by rw [app_size, sz1, sz3]; omega) (by omega) (by omega)
          refine ⟨out, p', s', ?_, ho⟩
          refine Ev.step (f := fun k => spec_l1Cur_spoilt.j1 k x1 x2 ((d + 1 : Nat) : Int) true l p s) (fun k => by rw [spec_l1Cur_spoilt.l0, if_pos (by omega), decide_eq_true hs]) ?_
          refine Ev.one h fun k => ?_
          rw [spec_l1Cur_spoilt.j1, if_pos rfl, e1.out, Option.bind_some]
          simp only [e2.out, Option.bind_some, e3.out]
          rw [if_pos c1, if_pos (by omega), if_neg z0, if_neg z1, if_pos b1, if_pos (by omega), hn.out, if_pos (by omega), if_pos (by omega), Int.toNat_natCast, Int.toNat_natCast, if_pos (by rw [sz1, sz3]; omega), hdn.out]
    · refine ⟨x1, p, s, ?_, by omega⟩
      refine Ev.step (f := fun k => spec_l1Cur_spoilt.j1 k x1 x2 ((d + 1 : Nat) : Int) false l p s) (fun k => by rw [spec_l1Cur_spoilt.l0, if_pos (by omega), decide_eq_false hs]) ?_
      exact Ev.end_ fun k => by rw [spec_l1Cur_spoilt.j1, if_neg (by decide)]
theorem spoilt_ok {l : List Int} (hb : Bytes l) (p s : Int) (x1 x2 : ByteArray) (h1 : x1.size ≤ 900) (h2 : 0 < x2.size ∧ x2.size ≤ 100) (hp : 0 ≤ p) (hq : p ≤ 900000) :
    ∃ out p' s', Ev (fun k => spec_l1Cur_spoilt.f k l p s x1 x2) (out, p', s') ∧ out.size ≤ 1000 := by
  obtain ⟨r, p1, s1, e1, b1, b2, b3, b4⟩ := pick_ok hb p s 2 hp (by omega)
  obtain ⟨i, rfl⟩ : ∃ i : Nat, r = i := ⟨r.toNat, by omega⟩
  obtain ⟨out, p', s', h, ho⟩ := spoilt_l0 hb x2 h2 (1 + i) x1 p1 s1 (by omega) (by omega) (by omega) (by omega)
  refine ⟨out, p', s', ?_, ho⟩
  unfold spec_l1Cur_spoilt.f
  simp only [e1, Option.bind_some]
  rw [show wrap64 (1 + (i : Int)) = ((1 + i : Nat) : Int) by rw [wrap_id (by omega) (by omega)]; omega]
  exact h
theorem DrawEmpty_ok {l : List Int} (hb : Bytes l) : ∃ v, spec_DrawEmptyTable.f l = some v := by
  obtain ⟨v, p, s, e, _, _⟩ := among_ok hb 0 0 [2, 3, 7, 12, 13, 1, 0] (by simp) (by omega) (by omega)
  unfold spec_DrawEmptyTable.f
  exact ⟨v, by rw [e]; rfl⟩
theorem DrawFirst_ok {l : List Int} (hb : Bytes l) : ∃ t, Ev (fun k => spec_DrawFirstInsertion.f k l) t ∧ t.length ≤ 21 := by
  obtain ⟨t, h, ht⟩ := DrawIsTable_ok hb
  exact ⟨t, Ev.bind h (Ev.now _), ht⟩
theorem DrawText_ok {l : List Int} (hb : Bytes l) : ∃ t, Ev (fun k => spec_DrawTableText.f k l) t ∧ t.length ≤ 21 := by
  obtain ⟨t, h, ht⟩ := DrawIsTable_ok hb
  exact ⟨t, Ev.bind h (Ev.now _), ht⟩
theorem DrawParse_j0 {l : List Int} (hb : Bytes l) (x5 : ByteArray) (h5 : x5.size ≤ 900) (p s : Int) (hp : 0 ≤ p) (hq : p ≤ 800000) : ∃ out, Ev (fun k => spec_DrawParseTable.j0 k x5 l p s) out ∧ out.size ≤ 1000 := by
  obtain ⟨b, p1, s1, e1, b1, b2⟩ := one_ok hb p s 3 hp (by omega)
  cases b with
  | true =>
    obtain ⟨out, p2, s2, h, ho⟩ := spoilt_ok hb p1 s1 x5 ⟨#[48, 49, 50, 51, 46, 32, 45]⟩ h5 (by decide) (by omega) (by omega)
    refine ⟨out, ?_, ho⟩
    refine Ev.step (f := fun k => (spec_l1Cur_spoilt.f k l p1 s1 x5 (⟨#[48, 49, 50, 51, 46, 32, 45]⟩ : ByteArray)).bind fun bt554 => (some bt554.1)) (fun k => by rw [spec_DrawParseTable.j0, e1]; rfl) ?_
    exact Ev.bind h (Ev.now _)
  | false =>
    exact ⟨x5, Ev.end_ fun k => by rw [spec_DrawParseTable.j0, e1]; rfl, by omega⟩
theorem DrawParse_ok {l : List Int} (hb : Bytes l) : ∃ out, Ev (fun k => spec_DrawParseTable.f k l) out ∧ out.size ≤ 1000 := by
  obtain ⟨t, p1, s1, he, ho, q1, q2⟩ := table_ok hb 0 0 (by omega) (by omega)
  unfold spec_DrawParseTable.f
  by_cases hT : tblB t = true
  · have hsz : (mkB (textL t)).size ≤ 900 := by
      have h12 := (tblB_parts hT).2.1
      have := text_len t.length (l := t) (tbl_cellR hT) (Nat.le_refl _)
      rw [List.take_length] at this
      rw [mkB_size]
      omega
    obtain ⟨out, h, hs⟩ := DrawParse_j0 hb (mkB (textL t)) hsz p1 s1 (by omega) (by omega)
    refine ⟨out, Ev.bind he ?_, hs⟩
    refine Ev.bind (prGood_ev t (by omega)) ?_
    simp only [hT, if_true]
    exact Ev.bind (prText_ev (tbl_cellR hT) (by omega)) h
  · obtain ⟨out, h, hs⟩ := DrawParse_j0 hb ⟨#[46, 32, 49, 32, 53, 32, 50]⟩ (by decide) p1 s1 (by omega) (by omega)
    refine ⟨out, Ev.bind he ?_, hs⟩
    refine Ev.bind (prGood_ev t (by omega)) ?_
    simp only [hT, Bool.false_eq_true, if_false]
    exact h
def tbV (a : Int) (l : List Int) : List Int × Bool := if keysB l a = true then (TabT.insAll (TabT.empty a.toNat) l, true) else ([], false)
theorem impl_TableOf_ev (a : Int) (l : List Int) (hn : l.length ≤ 1048576) : Ev (fun k => impl_TableOf.f k a l) (tbV a l) := by
  unfold impl_TableOf.f tbV
  simp only [areKeys_f l a hn, Option.bind_some]
  cases h : keysB l a with
  | false => simp only [Bool.false_eq_true, if_false]; exact Ev.now _
  | true =>
    obtain ⟨h1, h2, h3, h4, h5⟩ := keysB_parts h
    obtain ⟨n, rfl⟩ : ∃ n : Nat, a = n := ⟨a.toNat, by omega⟩
    simp only [if_true, Int.toNat_natCast, t_empty_eq n (by omega), Option.bind_some]
    exact tableOf_ev n l (by omega) (by omega) (by omega) h4
theorem tbl_Free {l : List Int} (h : tblB l = true) : TabT.Free l := by
  obtain ⟨h1, h2, h3, h4⟩ := tblB_parts h
  obtain ⟨j, hj, e⟩ := List.getElem_of_mem h4
  refine ⟨j, hj, ?_⟩
  rw [TabT.us, decide_eq_false_iff_not, List.getD_eq_getElem?_getD, List.getElem?_eq_getElem hj, e]
  decide
theorem prEmpty_ev (n : Nat) (hn : n ≤ 1000) : Ev (fun k => spec_prEmpty.f k (n : Int)) (List.replicate n (-1)) := by
  unfold spec_prEmpty.f
  refine Ev.up0 n (fun q => List.replicate q (-1 : Int)) (fun k s q => spec_prEmpty.l0 k (n : Int) q s) (List.replicate n (-1)) (fun q hq h => Ev.one h fun k => ?_) (Ev.end_ fun k => ?_)
  · rw [spec_prEmpty.l0, if_pos (by omega), if_pos (by simp; omega), wrap_next (n := n) hq (by omega), List.replicate_succ']
  · rw [spec_prEmpty.l0, if_neg (by omega)]
def emV (a0 : Int) : List Int × Bool := if 2 ≤ a0 ∧ a0 ≤ 12 then (List.replicate a0.toNat (-1), true) else ([], false)
theorem emV_len (a0 : Int) : (emV a0).1.length ≤ 12 := by
  unfold emV
  split
  · simp; omega
  · simp
theorem spec_EmptyTable_ev (a0 : Int) : Ev (fun k => spec_EmptyTable.f k a0) (emV a0) := by
  unfold spec_EmptyTable.f emV
  simp only [prSize_eq, Option.bind_some, decide_eq_true_eq]
  by_cases h : 2 ≤ a0 ∧ a0 ≤ 12
  · simp only [h, and_self, if_true]
    obtain ⟨n, rfl⟩ : ∃ n : Nat, a0 = n := ⟨a0.toNat, by omega⟩
    exact Ev.bind (prEmpty_ev n (by omega)) (Ev.now _)
  · simp only [h, if_false]; exact Ev.now _
theorem impl_EmptyTable_eq (a0 : Int) : impl_EmptyTable.f a0 = some (emV a0) := by
  unfold impl_EmptyTable.f impl_empty.f emV slices_Repeat_int_int.f
  simp only [isSize_eq, Option.bind_some, decide_eq_true_eq]
  by_cases h : 2 ≤ a0 ∧ a0 ≤ 12
  · rw [if_pos h, if_pos h, if_pos ⟨rfl, by omega, by omega⟩]; rfl
  · rw [if_neg h, if_neg h]
def fiV (l : List Int) : List Int × Bool := if tblB l = true then (fo l (keysZ l).length [], true) else ([], false)
theorem spec_First_ev (l : List Int) (hn : l.length ≤ 4611686018427387904) : Ev (fun k => spec_FirstInsertion.f k l) (fiV l) := by
  unfold spec_FirstInsertion.f fiV
  refine Ev.bind (prGood_ev l hn) ?_
  cases h : tblB l with
  | false => simp only [Bool.false_eq_true, if_false]; exact Ev.now _
  | true =>
    simp only [if_true]
    refine Ev.bind (prFirst_ev h) ?_
    exact Ev.now _
theorem impl_First_ev (l : List Int) (hn : l.length ≤ 4611686018427387904) : Ev (fun k => impl_FirstInsertion.f k l) (fiV l) := by
  unfold impl_FirstInsertion.f fiV
  refine Ev.bind (isTable_ev l hn) ?_
  cases h : tblB l with
  | false => simp only [Bool.false_eq_true, if_false]; exact Ev.now _
  | true =>
    simp only [if_true, first_f h, Option.bind_some]
    exact Ev.now _
def lastTo (l : List Int) : Nat → Nat
  | 0 => 0
  | q + 1 => if l.getD q 0 = -1 then q else lastTo l q
theorem lastTo_lt (l : List Int) : ∀ q, 1 ≤ q → lastTo l q < q
  | 0, h => by omega
  | q + 1, _ => by
    rw [lastTo]
    split
    · omega
    · by_cases c : 1 ≤ q
      · have := lastTo_lt l q c; omega
      · obtain rfl : q = 0 := by omega
        simp [lastTo]
/-- Where a key's own cell lies on the street that begins behind the last free cell. -/
def streetC (l : List Int) (x : Int) : Int := (((x.toNat % l.length + 2 * l.length - lastTo l l.length - 1) % l.length : Nat) : Int)
theorem spec_arith {n key last : Nat} (hn : 2 ≤ n) (hn2 : n ≤ 12) (hk : key ≤ 1000) (hl : last < n) :
    Int.tmod (wrap64 ((wrap64 ((wrap64 ((Int.tmod (key : Int) (n : Int)) - (last : Int))) - 1)) + (wrap64 (2 * (n : Int))))) (n : Int) = (((key % n + 2 * n - last - 1) % n : Nat) : Int) := by
  have e : Int.tmod (key : Int) (n : Int) = ((key % n : Nat) : Int) := rfl
  have hm := Nat.mod_lt key (show 0 < n by omega)
  rw [e, wrap_id (x := ((key % n : Nat) : Int) - (last : Int)) (by omega) (by omega), wrap_id (x := ((key % n : Nat) : Int) - (last : Int) - 1) (by omega) (by omega), wrap_id (x := 2 * (n : Int)) (by omega) (by omega), wrap_id (by omega) (by omega),
    show ((key % n : Nat) : Int) - (last : Int) - 1 + 2 * (n : Int) = ((key % n + 2 * n - last - 1 : Nat) : Int) by omega]
  rfl
theorem impl_arith {n key last : Nat} (hn : 2 ≤ n) (hn2 : n ≤ 12) (hk : key ≤ 1000) (hl : last < n) :
    Int.tmod (wrap64 ((Int.tmod (wrap64 ((Int.tmod (key : Int) (n : Int)) + (wrap64 ((wrap64 (-(last : Int))) - 1)))) (n : Int)) + (n : Int))) (n : Int) = (((key % n + 2 * n - last - 1) % n : Nat) : Int) := by
  have e : Int.tmod (key : Int) (n : Int) = ((key % n : Nat) : Int) := rfl
  have hm := Nat.mod_lt key (show 0 < n by omega)
  generalize key % n = o at *
  rw [e, wrap_id (x := -(last : Int)) (by omega) (by omega), wrap_id (x := -(last : Int) - 1) (by omega) (by omega), wrap_id (x := (o : Int) + (-(last : Int) - 1)) (by omega) (by omega)]
  rcases Nat.lt_or_ge last o with c | c
  · have e1 : (o : Int) + (-(last : Int) - 1) = ((o - last - 1 : Nat) : Int) := by omega
    have e2 : Int.tmod ((o - last - 1 : Nat) : Int) (n : Int) = ((o - last - 1 : Nat) : Int) := by
      have : Int.tmod ((o - last - 1 : Nat) : Int) (n : Int) = (((o - last - 1) % n : Nat) : Int) := rfl
      rw [this, Nat.mod_eq_of_lt (by omega)]
    rw [e1, e2, wrap_id (by omega) (by omega), show ((o - last - 1 : Nat) : Int) + (n : Int) = ((o - last - 1 + n : Nat) : Int) by omega]
    have e3 : Int.tmod ((o - last - 1 + n : Nat) : Int) (n : Int) = (((o - last - 1 + n) % n : Nat) : Int) := rfl
    rw [e3, show o + 2 * n - last - 1 = (o - last - 1 + n) + n by omega, Nat.add_mod_right (o - last - 1 + n)]
  · have e1 : (o : Int) + (-(last : Int) - 1) = -((last + 1 - o : Nat) : Int) := by omega
    have e2 : Int.tmod ((last + 1 - o : Nat) : Int) (n : Int) = (((last + 1 - o) % n : Nat) : Int) := rfl
    rw [e1, Int.neg_tmod, e2]
    rcases Nat.lt_or_ge (last + 1 - o) n with q | q
    · rw [Nat.mod_eq_of_lt q, wrap_id (by omega) (by omega), show -((last + 1 - o : Nat) : Int) + (n : Int) = ((n + o - last - 1 : Nat) : Int) by omega]
      have e3 : Int.tmod ((n + o - last - 1 : Nat) : Int) (n : Int) = (((n + o - last - 1) % n : Nat) : Int) := rfl
      rw [e3, show o + 2 * n - last - 1 = (n + o - last - 1) + n by omega, Nat.add_mod_right]
    · have e5 : last + 1 - o = n := by omega
      rw [e5, Nat.mod_self, wrap_id (by omega) (by omega)]
      have e3 : Int.tmod (-((0 : Nat) : Int) + (n : Int)) (n : Int) = ((n % n : Nat) : Int) := by simp
      rw [e3, show o + 2 * n - last - 1 = n by omega]
end Go.Proofs.YteakjjimkagmkaaGreatDoor.Pure
namespace Go.Proofs.YteakjjimkagmkaaGreatDoor.Pure
open Go.RowKit Go.Proofs.YteakjjimkagmkaaGreatDoor.G Go.Proofs.YteakjjimkagmkaaGreatDoorW.PrintWords Go.Proofs.YteakjjimkagmkaaGreatDoorW.PrintLast
section
variable {l : List Int} (h : tblB l = true)
include h
theorem fo_range {d : Nat} {S : List Int} (D : Done l S) {q : Nat} (hq : q < (fo l d S).length) : ∃ key : Nat, (fo l d S).getD q 0 = key ∧ key ≤ 1000 := by
  have hm := (fo_done d S D).mem _ (getD_mem hq)
  obtain ⟨i, hi, e, h0⟩ := key_at hm
  have := (tblB_parts h).2.2.1 i hi
  exact ⟨((fo l d S).getD q 0).toNat, by omega, by omega⟩
theorem sp_street_l1 (F : List Int) (hF : F.length ≤ 100) (hk : ∀ q, q < F.length → ∃ key : Nat, F.getD q 0 = key ∧ key ≤ 1000) :
    Ev (fun k => spec_StreetOf.l1 k (l.length : Int) ((lastTo l l.length : Nat) : Int) ([] : List Int) F (F.length : Int) 0) (F.map (streetC l), (l.length : Int) - 1, true) := by
  obtain ⟨h1, h2, h3, h4⟩ := tblB_parts h
  have hlt := lastTo_lt l l.length (by omega)
  have := Ev.up0 F.length (fun q => (F.take q).map (streetC l)) (fun k s q => spec_StreetOf.l1 k (l.length : Int) ((lastTo l l.length : Nat) : Int) s F (F.length : Int) q) (F.map (streetC l), (l.length : Int) - 1, true) (fun q hq hE => ?_) (Ev.end_ fun k => ?_)
  · simpa using this
  · obtain ⟨key, hkey, hk9⟩ := hk q hq
    refine Ev.one hE fun k => ?_
    rw [spec_StreetOf.l1, if_pos (by omega), if_pos (by omega), if_pos (by omega), if_neg (by omega), if_pos (by rw [List.length_map, List.length_take]; omega), rd_nat, hkey, spec_arith (by omega) (by omega) hk9 hlt, wrap_next (n := F.length) hq (by omega)]
    congr 1
    rw [take_succ_getD hq, List.map_append, hkey]
    rfl
  · rw [spec_StreetOf.l1, if_neg (by omega), List.take_length, wrap_id (by omega) (by omega)]
theorem own_l0 (F : List Int) (hF : F.length ≤ 100) : Ev (fun k => impl_Table_ownCells.l0 k (([] : List Int)) F (F.length : Int) 0 l) (F.map fun x => Int.tmod x (l.length : Int)) := by
  obtain ⟨h1, h2, h3, h4⟩ := tblB_parts h
  have := Ev.up0 F.length (fun q => (F.take q).map fun x => Int.tmod x (l.length : Int)) (fun k s q => impl_Table_ownCells.l0 k s F (F.length : Int) q l) (F.map fun x => Int.tmod x (l.length : Int)) (fun q hq hE => ?_) (Ev.end_ fun k => ?_)
  · simpa using this
  · refine Ev.one hE fun k => ?_
    rw [impl_Table_ownCells.l0, if_pos (by omega), if_pos (by omega), if_pos (by omega), if_neg (by omega), if_pos (by rw [List.length_map, List.length_take]; omega), rd_nat, wrap_next (n := F.length) hq (by omega)]
    congr 1
    rw [take_succ_getD hq, List.map_append]
    rfl
  · rw [impl_Table_ownCells.l0, if_neg (by omega), List.take_length]
theorem turn_ev (F : List Int) (hF : F.length ≤ 100) (hk : ∀ q, q < F.length → ∃ key : Nat, F.getD q 0 = key ∧ key ≤ 1000) :
    Ev (fun k => impl_turn.f k (F.map fun x => Int.tmod x (l.length : Int)) (l.length : Int) (wrap64 ((wrap64 (-((lastTo l l.length : Nat) : Int))) - 1))) (F.map (streetC l)) := by
  obtain ⟨h1, h2, h3, h4⟩ := tblB_parts h
  have hlt := lastTo_lt l l.length (by omega)
  unfold impl_turn.f
  rw [List.length_map]
  have := Ev.up0 F.length (fun q => (F.take q).map (streetC l)) (fun k s q => impl_turn.l0 k (l.length : Int) (wrap64 ((wrap64 (-((lastTo l l.length : Nat) : Int))) - 1)) s (F.map fun x => Int.tmod x (l.length : Int)) (F.length : Int) q) (F.map (streetC l)) (fun q hq hE => ?_) (Ev.end_ fun k => ?_)
  · simpa using this
  · obtain ⟨key, hkey, hk9⟩ := hk q hq
    have hg : (F.map fun x => Int.tmod x (l.length : Int)).getD q 0 = Int.tmod (key : Int) (l.length : Int) := by
      rw [getD_get (by simpa using hq), List.getElem_map, ← getD_get hq, hkey]
    refine Ev.one hE fun k => ?_
    rw [impl_turn.l0, if_pos (by omega), if_pos (by omega), if_pos (by rw [List.length_map]; omega), if_neg (by omega), if_pos (by rw [List.length_map, List.length_take]; omega), rd_nat, hg, impl_arith (by omega) (by omega) hk9 hlt, wrap_next (n := F.length) hq (by omega)]
    congr 1
    rw [take_succ_getD hq, List.map_append, hkey]
    rfl
  · rw [impl_turn.l0, if_neg (by omega), List.take_length]
def foL (l : List Int) : List Int := fo l (keysZ l).length []
theorem foL_len : (foL l).length ≤ 100 := by
  have := (fo_done (keysZ l).length [] (Done.nil l)).le
  have := keysZ_len l
  have := (tblB_parts h).2.1
  unfold foL
  omega
theorem foL_range {q : Nat} (hq : q < (foL l).length) : ∃ key : Nat, (foL l).getD q 0 = key ∧ key ≤ 1000 := fo_range h (Done.nil l) hq
def stR (l : List Int) : List Int × Int × Bool := ((foL l).map (streetC l), (l.length : Int) - 1, true)
theorem sp_street : Ev (fun k => spec_StreetOf.l0 k (l.length : Int) 0 l (l.length : Int) 0 l) (stR l) := by
  obtain ⟨h1, h2, h3, h4⟩ := tblB_parts h
  have := Ev.up0 l.length (fun q => ((lastTo l q : Nat) : Int)) (fun k s q => spec_StreetOf.l0 k (l.length : Int) s l (l.length : Int) q l) (stR l) (fun q hq hE => ?_) ?_
  · simpa [lastTo] using this
  · rw [lastTo] at hE
    by_cases hf : l.getD q 0 = -1
    · rw [if_pos hf] at hE
      refine Ev.one hE fun k => ?_
      rw [spec_StreetOf.l0, if_pos (by omega), if_pos (by omega), if_pos (by omega), rd_nat, if_pos hf, wrap_next (n := l.length) hq (by omega)]
    · rw [if_neg hf] at hE
      refine Ev.one hE fun k => ?_
      rw [spec_StreetOf.l0, if_pos (by omega), if_pos (by omega), if_pos (by omega), rd_nat, if_neg hf, wrap_next (n := l.length) hq (by omega)]
  · refine Ev.step (f := fun k => (spec_prFirst.f k l).bind fun t279 => (spec_StreetOf.l1 k (l.length : Int) ((lastTo l l.length : Nat) : Int) ([] : List Int) t279 (t279.length : Int) 0)) (fun k => by
      rw [spec_StreetOf.l0, if_neg (by omega)]) ?_
    refine Ev.bind (prFirst_ev h) ?_
    exact sp_street_l1 h (foL l) (foL_len h) (fun q hq => foL_range h hq)
theorem im_here (q : Nat) (hq : q < l.length) (e0 : l.getD q 0 = -1) (hl : lastTo l (q + 1) = lastTo l l.length) : Ev (fun k => impl_StreetOf.l0 k (l.length : Int) (q : Int) l) (stR l) := by
  obtain ⟨h1, h2, h3, h4⟩ := tblB_parts h
  rw [lastTo, if_pos e0] at hl
  refine Ev.step (f := fun k => (impl_Table_ownCells.f k l).bind fun t311 => ((impl_turn.f k t311 (l.length : Int) (wrap64 ((wrap64 (-((lastTo l l.length : Nat) : Int))) - 1))).bind fun t314 => (some (t314, wrap64 ((l.length : Int) - 1), true)))) (fun k => by
    rw [impl_StreetOf.l0, if_pos (by omega), if_pos (by omega), rd_nat, if_neg (by omega), ← hl]) ?_
  have ho : Ev (fun k => impl_Table_ownCells.f k l) ((foL l).map fun x => Int.tmod x (l.length : Int)) := by
    unfold impl_Table_ownCells.f
    rw [first_f h]
    exact own_l0 h (foL l) (foL_len h)
  refine Ev.bind ho ?_
  refine Ev.bind (turn_ev h (foL l) (foL_len h) (fun q hq => foL_range h hq)) ?_
  rw [wrap_id (x := (l.length : Int) - 1) (by omega) (by omega)]
  exact Ev.now _
theorem im_street : ∀ (q : Nat), q < l.length → (-1 : Int) ∈ l.take (q + 1) → lastTo l (q + 1) = lastTo l l.length → Ev (fun k => impl_StreetOf.l0 k (l.length : Int) (q : Int) l) (stR l) := by
  obtain ⟨h1, h2, h3, h4⟩ := tblB_parts h
  intro q
  induction q with
  | zero =>
    intro hq hm hl
    have e0 : l.getD 0 0 = -1 := by
      rw [take_succ_getD hq, List.take_zero, List.nil_append, List.mem_singleton] at hm
      exact hm.symm
    exact im_here h 0 hq e0 hl
  | succ q ih =>
    intro hq hm hl
    by_cases hf : l.getD (q + 1) 0 = -1
    · exact im_here h (q + 1) hq hf hl
    · rw [lastTo, if_neg hf] at hl
      rw [take_succ_getD hq, List.mem_append, List.mem_singleton] at hm
      have hm2 : (-1 : Int) ∈ l.take (q + 1) := hm.resolve_right (fun e => hf e.symm)
      refine Ev.one (ih (by omega) hm2 hl) fun k => ?_
      have := h3 (q + 1) hq
      rw [impl_StreetOf.l0, if_pos (by omega), if_pos (by omega), rd_nat, if_pos (by omega), wrap_id (by omega) (by omega), show ((q + 1 : Nat) : Int) - 1 = (q : Int) by omega]
end
end Go.Proofs.YteakjjimkagmkaaGreatDoor.Pure
namespace Go.Proofs.YteakjjimkagmkaaGreatDoor.Pure
open Go.RowKit Go.Proofs.YteakjjimkagmkaaGreatDoor.G Go.Proofs.YteakjjimkagmkaaGreatDoorW.PrintWords Go.Proofs.YteakjjimkagmkaaGreatDoorW.PrintLast
def stB (l : List Int) : Bool := tblB l && decide (1 ≤ ((keysZ l).length : Int) ∧ ((keysZ l).length : Int) ≤ 8)
def stV (l : List Int) : List Int × Int × Bool := if stB l = true then stR l else ([], 0, false)
theorem stV_len (l : List Int) : (stV l).1.length ≤ l.length := by
  unfold stV
  split
  · have := (fo_done (keysZ l).length [] (Done.nil l)).le
    have := keysZ_len l
    unfold stR foL
    simp only [List.length_map]
    omega
  · simp
theorem spec_Street_ev (l : List Int) (hn : l.length ≤ 4611686018427387904) : Ev (fun k => spec_StreetOf.f k l) (stV l) := by
  unfold spec_StreetOf.f stV stB
  refine Ev.bind (prGood_ev l hn) ?_
  cases h : tblB l with
  | false =>
    simp only [Bool.false_eq_true, if_false, Bool.false_and]
    exact Ev.end_ fun k => by rw [spec_StreetOf.j0, if_pos rfl]
  | true =>
    obtain ⟨h1, h2, h3, h4⟩ := tblB_parts h
    simp only [if_true, Bool.true_and]
    refine Ev.bind (prMany_ev l (by omega)) ?_
    rw [many_keysZ (fun j hj => (h3 j hj).1), l1In_eq]
    simp only [Option.bind_some]
    cases c : decide (1 ≤ ((keysZ l).length : Int) ∧ ((keysZ l).length : Int) ≤ 8) with
    | false =>
      simp only [Bool.false_eq_true, if_false]
      exact Ev.end_ fun k => by rw [spec_StreetOf.j0, if_pos (by decide)]
    | true =>
      simp only [if_true]
      exact Ev.one (sp_street h) fun k => by rw [spec_StreetOf.j0, if_neg (by decide)]
theorem impl_Street_ev (l : List Int) (hn : l.length ≤ 4611686018427387904) : Ev (fun k => impl_StreetOf.f k l) (stV l) := by
  unfold impl_StreetOf.f stV stB
  refine Ev.bind (isTable_ev l hn) ?_
  cases h : tblB l with
  | false =>
    simp only [Bool.false_eq_true, if_false, Bool.false_and]
    exact Ev.end_ fun k => by rw [impl_StreetOf.j0, if_pos rfl]
  | true =>
    obtain ⟨h1, h2, h3, h4⟩ := tblB_parts h
    simp only [if_true, Bool.true_and, keys_f h, Option.bind_some, between_eq]
    cases c : decide (1 ≤ ((keysZ l).length : Int) ∧ ((keysZ l).length : Int) ≤ 8) with
    | false =>
      simp only [Bool.false_eq_true, if_false]
      exact Ev.end_ fun k => by rw [impl_StreetOf.j0, if_pos (by decide)]
    | true =>
      simp only [if_true]
      have hs := im_street h (l.length - 1) (by omega) (by rw [show l.length - 1 + 1 = l.length by omega, List.take_length]; exact h4) (by rw [show l.length - 1 + 1 = l.length by omega])
      refine Ev.one hs fun k => ?_
      rw [impl_StreetOf.j0, if_neg (by decide), wrap_id (by omega) (by omega), show (l.length : Int) - 1 = ((l.length - 1 : Nat) : Int) by omega]
theorem fo_keys {l : List Int} (h : tblB l = true) : keysB (fo l (keysZ l).length []) (l.length : Int) = true ∧ (fo l (keysZ l).length []).length ≤ l.length := by
  obtain ⟨h1, h2, h3, h4⟩ := tblB_parts h
  have D := fo_done (keysZ l).length [] (Done.nil l)
  have hm := TabT.many_of_free (tbl_Free h)
  have hk := (keysZ_keys l).length_eq
  have hle := D.le
  rw [TabT.many_keys] at hm
  refine ⟨?_, by omega⟩
  rw [keysB, Bool.and_eq_true, Bool.and_eq_true, Bool.and_eq_true, decide_eq_true_eq, decide_eq_true_eq, decide_eq_true_eq, List.all_eq_true]
  refine ⟨⟨⟨by omega, by omega⟩, fun x hx => ?_⟩, D.nodup⟩
  obtain ⟨i, hi, e, h0⟩ := key_at (D.mem x hx)
  have := h3 i hi
  exact decide_eq_true (by omega)
theorem lastTo_free (l : List Int) : ∀ q, q ≤ l.length → (-1 : Int) ∈ l.take q → l.getD (lastTo l q) 0 = -1
  | 0, _, h => by simp at h
  | q + 1, hq, h => by
    rw [lastTo]
    by_cases c : l.getD q 0 = -1
    · rw [if_pos c]; exact c
    · rw [if_neg c]
      refine lastTo_free l q (by omega) ?_
      rw [take_succ_getD (by omega), List.mem_append, List.mem_singleton] at h
      rcases h with h | h
      · exact h
      · exact absurd h.symm c
end Go.Proofs.YteakjjimkagmkaaGreatDoor.Pure
namespace Go.Proofs.YteakjjimkagmkaaGreatDoor.Pure
open Go.RowKit Go.Proofs.YteakjjimkagmkaaGreatDoor.G Go.Proofs.YteakjjimkagmkaaGreatDoorW.PrintWords Go.Proofs.YteakjjimkagmkaaGreatDoorW.PrintLast
section
variable {l1 : List Int} (hb : Bytes l1)
include hb
theorem io_j7 : Ev (fun k => laws_FnInsertionOrders.j7 k l1 false) true := by
  obtain ⟨v, hv⟩ := DrawEmpty_ok hb
  have hl := emV_len v
  refine Ev.step (fun k => by rw [laws_FnInsertionOrders.j7, if_neg (by decide)]) ?_
  simp only [hv, Option.bind_some, impl_EmptyTable_eq]
  refine Ev.bind (spec_EmptyTable_ev v) ?_
  simp only [beq_self_eq_true, if_true]
  refine Ev.bind (t_jTable_ev _ _ (by omega)) ?_
  simp only [decide_true]
  exact Ev.now _
theorem io_j6 : Ev (fun k => laws_FnInsertionOrders.j6 k l1) true := by
  obtain ⟨s, hs, hn⟩ := DrawParse_ok hb
  have hl := ptV_len s.data.toList
  refine Ev.step (fun k => by rw [laws_FnInsertionOrders.j6]) ?_
  refine Ev.bind hs ?_
  refine Ev.bind (impl_parse_ev s (by omega)) ?_
  refine Ev.bind (spec_parse_ev s (by omega)) ?_
  simp only [bne_self_eq_false, Bool.false_eq_true, if_false]
  refine Ev.bind (t_jTable_ev _ _ (by omega)) ?_
  simp only [decide_true, Bool.not_true]
  exact io_j7 hb
theorem io_j4 : Ev (fun k => laws_FnInsertionOrders.j4 k l1) true := by
  obtain ⟨u, hu, hn⟩ := DrawText_ok hb
  refine Ev.step (fun k => by rw [laws_FnInsertionOrders.j4]) ?_
  refine Ev.bind hu ?_
  refine Ev.bind (impl_text_ev u (by omega)) ?_
  refine Ev.bind (spec_text_ev u (by omega)) ?_
  simp only [bne_self_eq_false, Bool.false_eq_true, if_false]
  cases hc : (txV u).2 with
  | false =>
    refine Ev.step (fun k => by rw [laws_FnInsertionOrders.j5, if_neg (by decide), if_neg (by decide)]) ?_
    exact io_j6 hb
  | true =>
    have hback := txV_back hc
    have hT : tblB u = true := by
      by_cases c : tblB u = true
      · exact c
      · rw [txV, if_neg c] at hc; cases hc
    have hsz : (txV u).1.size ≤ 1048576 := by
      have h12 := (tblB_parts hT).2.1
      rw [txV, if_pos hT]
      have := text_len u.length (l := u) (tbl_cellR hT) (Nat.le_refl _)
      rw [List.take_length] at this
      rw [mkB_size]
      omega
    refine Ev.step (f := fun k => (impl_ParseTable.f k (txV u).1).bind fun bt650 => (if bt650.2 = true then ((laws_jTable.f k bt650.1 u).bind fun t655 => (if t655 = true then (laws_FnInsertionOrders.j6 k l1) else (some false))) else (some false))) (fun k => by rw [laws_FnInsertionOrders.j5, if_neg (by decide), if_pos rfl]) ?_
    refine Ev.bind (impl_parse_ev (txV u).1 hsz) ?_
    rw [hback]
    simp only [if_true]
    refine Ev.bind (t_jTable_ev u u (by omega)) ?_
    simp only [decide_true, if_true]
    exact io_j6 hb
theorem io_l0 {l : List Int} (hT : tblB l = true) (D : List Int) (hD : D.length = (foL l).length) (hv : ∀ q, q < (foL l).length → D.getD q 0 = ((cstK l ((foL l).getD q 0) : Nat) : Int)) :
    ∀ (d q : Nat), q + d = (foL l).length → Ev (fun k => laws_FnInsertionOrders.l0 k l1 D (foL l) ((foL l).length : Int) (q : Int) l) true := by
  have h12 := (tblB_parts hT).2.1
  have DF : Done l (foL l) := fo_done _ [] (Done.nil l)
  have hFl : (foL l).length ≤ 100 := foL_len hT
  intro d
  induction d with
  | zero =>
    intro q hq
    exact Ev.one (io_j4 hb) fun k => by rw [laws_FnInsertionOrders.l0, if_neg (by omega)]
  | succ d ih =>
    intro q hq
    have hql : q < (foL l).length := by omega
    have hm := DF.mem _ (getD_mem hql)
    obtain ⟨c1, c2, c3, c4, c5, c6⟩ := cell_here hT hm
    have hmem : (foL l).getD q 0 ∈ l := (keysZ_mem.1 hm).1
    have hfk : fkV l ((foL l).getD q 0) = (ixF l ((foL l).getD q 0) l.length 0, ((cstK l ((foL l).getD q 0) : Nat) : Int), true) := by
      rw [fkV, if_pos hT, if_pos ⟨c3, c4⟩, if_pos hmem, c5]
      rfl
    have hf := impl_FindKey_ev l ((foL l).getD q 0) (by omega)
    rw [hfk] at hf
    refine Ev.step (f := fun k => (impl_FindKey.f k l ((foL l).getD q 0)).bind fun bt638 => (if bt638.2.2 = true then (if (q : Int) < (D.length : Int) then (if bt638.2.1 = D.getD q 0 then (laws_FnInsertionOrders.l0 k l1 D (foL l) ((foL l).length : Int) ((q + 1 : Nat) : Int) l) else (some false)) else (none)) else (some false))) (fun k => by
      rw [laws_FnInsertionOrders.l0, if_pos (by omega), if_pos (by omega), if_pos (by omega), rd_nat, rd_nat, wrap_next (n := (foL l).length) hql (by omega)]) ?_
    refine Ev.bind hf ?_
    simp only [if_true, hv q hql, show (q : Int) < (D.length : Int) by omega]
    exact ih (q + 1) (by omega)
theorem io_j1 (l : List Int) (hl : l.length ≤ 100) : Ev (fun k => laws_FnInsertionOrders.j1 k l1 (fiV l).1 (stV l).1 (stV l).2.1 (stV l).2.2 l) true := by
  cases hB : stB l with
  | false =>
    have e : stV l = ([], 0, false) := by rw [stV, hB]; rfl
    rw [e]
    exact Ev.one (io_j4 hb) fun k => by rw [laws_FnInsertionOrders.j1, if_neg (by decide)]
  | true =>
    have e : stV l = stR l := by rw [stV, if_pos hB]
    rw [stB, Bool.and_eq_true, decide_eq_true_eq] at hB
    obtain ⟨hT, hk1, hk2⟩ := hB
    obtain ⟨h1, h2, h3, h4⟩ := tblB_parts hT
    have eF : (fiV l).1 = foL l := by rw [fiV, if_pos hT]; rfl
    have DF : Done l (foL l) := fo_done _ [] (Done.nil l)
    have hF8 : (foL l).length ≤ 8 := by have := DF.le; omega
    have hg := lastTo_lt l l.length (by omega)
    have he := lastTo_free l l.length (Nat.le_refl _) (by rw [List.take_length]; exact h4)
    obtain ⟨R, hc⟩ := street_rides hT (F := foL l) (d := (keysZ l).length) rfl hg he
    have hd := dist_ev R (by omega) (by omega) hF8 (by omega)
    rw [e, eF]
    have hn : ((l.length - 1 : Nat) : Int) = (l.length : Int) - 1 := by omega
    rw [hn] at hd
    refine Ev.step (f := fun k => (impl_DistancesOf.f k (stR l).1 (stR l).2.1).bind fun bt633 => (if bt633.2 = true then (laws_FnInsertionOrders.j2 k l1 (foL l) bt633.1 ((bt633.1.length : Int) != ((foL l).length : Int)) l) else (laws_FnInsertionOrders.j2 k l1 (foL l) bt633.1 true l))) (fun k => by rw [laws_FnInsertionOrders.j1, if_pos (show (stR l).2.2 = true from rfl)]) ?_
    refine Ev.bind hd ?_
    simp only [if_true, List.length_map, bne_self_eq_false]
    refine Ev.step (fun k => by rw [laws_FnInsertionOrders.j2, if_neg (by decide)]) ?_
    refine io_l0 hb hT _ (by rw [List.length_map]) (fun q hq => ?_) (foL l).length 0 (by omega)
    rw [getD_get (by rw [List.length_map]; exact hq), List.getElem_map]
    have := hc _ (List.getElem_mem hq)
    rw [getD_get hq]
    omega
theorem io_j0 (l : List Int) (hl : l.length ≤ 100) : Ev (fun k => laws_FnInsertionOrders.j0 k l1 (fiV l).1 (fiV l).2 (stV l).1 (stV l).2.1 (stV l).2.2 false l) true := by
  by_cases hT : tblB l = true
  · obtain ⟨f1, f2⟩ := fo_keys hT
    have e1 : fiV l = (fo l (keysZ l).length [], true) := by rw [fiV, if_pos hT]
    have e2 : tbV (l.length : Int) (fo l (keysZ l).length []) = (l, true) := by
      rw [tbV, if_pos f1, Int.toNat_natCast, order_makes hT]
    have hj := io_j1 hb l hl
    have ht := impl_TableOf_ev (l.length : Int) (fo l (keysZ l).length []) (by omega)
    rw [e2] at ht
    rw [e1] at hj ⊢
    refine Ev.step (f := fun k => (impl_TableOf.f k (l.length : Int) (fo l (keysZ l).length [])).bind fun bt627 => (if bt627.2 = true then ((laws_jTable.f k bt627.1 l).bind fun t632 => (if t632 = true then (laws_FnInsertionOrders.j1 k l1 (fo l (keysZ l).length []) (stV l).1 (stV l).2.1 (stV l).2.2 l) else (some false))) else (some false))) (fun k => by rw [laws_FnInsertionOrders.j0, if_neg (by decide), if_pos rfl]) ?_
    refine Ev.bind ht ?_
    simp only [if_true]
    refine Ev.bind (t_jTable_ev l l (by omega)) ?_
    simp only [decide_true, if_true]
    exact hj
  · have e1 : fiV l = ([], false) := by rw [fiV, if_neg hT]
    have hj := io_j1 hb l hl
    rw [e1] at hj ⊢
    exact Ev.one hj fun k => by rw [laws_FnInsertionOrders.j0, if_neg (by decide), if_neg (by decide)]
end
end Go.Proofs.YteakjjimkagmkaaGreatDoor.Pure
namespace Go.Proofs.YteakjjimkagmkaaGreatDoor.Pure
open Go.RowKit Go.Proofs.YteakjjimkagmkaaGreatDoor.G Go.Proofs.YteakjjimkagmkaaGreatDoorW.PrintWords Go.Proofs.YteakjjimkagmkaaGreatDoorW.PrintLast
theorem FnInsertionOrders : laws_FnInsertionOrders.Pure := by
  intro l0 l1 h1 h2 h3 h4 h5 h6
  refine Ev.rounds ?_
  have hb0 := bytes_of h3
  have hb1 := bytes_of h6
  unfold laws_FnInsertionOrders.f
  obtain ⟨b, hbig⟩ := big_eq l0 l1
  simp only [hbig, Option.bind_some]
  cases b with
  | true => simp only [if_true]; exact Ev.now _
  | false =>
    simp only [Bool.false_eq_true, if_false]
    obtain ⟨l, hd, hl⟩ := DrawFirst_ok hb0
    have hfl : (fiV l).1.length ≤ 1000 := by
      unfold fiV
      split
      · rename_i c
        exact Nat.le_trans (foL_len c) (by omega)
      · simp
    have hsl := stV_len l
    refine Ev.bind hd ?_
    refine Ev.bind (impl_First_ev l (by omega)) ?_
    refine Ev.bind (spec_First_ev l (by omega)) ?_
    refine Ev.bind (impl_Count_ev l (by omega)) ?_
    refine Ev.bind (spec_Count_ev l (by omega)) ?_
    refine Ev.bind (impl_Street_ev l (by omega)) ?_
    refine Ev.bind (spec_Street_ev l (by omega)) ?_
    simp only [bne_self_eq_false, Bool.false_eq_true, if_false]
    refine Ev.bind (t_jSame_ev _ _ (by omega)) ?_
    simp only [decide_true, if_true]
    refine Ev.bind (t_jSame_ev _ _ (by omega)) ?_
    simp only [decide_true, if_true]
    have hIs : Ev (fun k => impl_IsTable.f k l) (tblB l) := by
      unfold impl_IsTable.f
      exact Ev.bind (isTable_ev l (by omega)) (Ev.now _)
    refine Ev.bind hIs ?_
    have ht : (fiV l).2 = tblB l := by
      unfold fiV
      cases tblB l <;> rfl
    simp only [ht, bne_self_eq_false, Bool.false_eq_true, if_false]
    have hj := io_j0 hb1 l (by omega)
    rw [ht] at hj
    cases hc : (ciV l).2 with
    | false => simp only [Bool.false_eq_true, if_false]; exact hj
    | true =>
      have hp := ciV_pos hc
      simp only [if_true, show decide ((ciV l).1 < 1) = false from decide_eq_false (by omega)]
      exact hj
end Go.Proofs.YteakjjimkagmkaaGreatDoor.Pure
namespace Go.Proofs.YteakjjimkagmkaaGreatDoorW.PrintWords
open Go.ChangeShapes Go.WideShapes
theorem sized_ints {H : Type} {enc : TypeId × Value → H} {P : Program} {W : World} {base : Nat} {spare : Nat → Bool} {held : Bool} {t e : TypeId} {k : IntKind} {a : Option Addr} {len cap : Nat} {d : DataW H} {ps : List MemPlace} {ts : List TypeId} {ds : List (DataW H)} {j : Nat}
    (hsz : (DataW.weightsEach P ts ds).all (· ≤ reachBytes) = true) (ht : ts[j]? = some t) (hd : ds[j]? = some d) (hu : P.underlying t = some (.slice e)) (he : P.underlying e = some (.int k)) (hc : P.cellsOf e = 1) {B : Nat} (hB : P.bytesOf e = B)
    (h : DataW.Trod enc P W base spare held t (.slice a len cap) d ps) : len * B ≤ 140737488351232 := by
  obtain ⟨fuel, hf⟩ := h
  rcases open_ints hu he hc hf with ⟨hcs, _⟩ | ⟨x, l, c, zs, hcs, _, hl, _, hz, hx, _, _⟩
  · simp [Value.cells] at hcs
    obtain ⟨rfl, rfl, rfl⟩ := hcs
    simp
  · simp [Value.cells] at hcs
    obtain ⟨rfl, rfl, rfl⟩ := hcs
    obtain ⟨hx, _⟩ := Prod.mk.inj hx
    subst hx
    have z := sized_slice hsz ht hd hu
    rw [hB] at z
    have hl2 : len ≤ zs.length := by
      rw [hz]
      split
      · exact hl
      · exact Nat.le_refl _
    have h1 : (lits (H := H) k (zs.take len)).length + (lits (H := H) k (zs.drop len)).length = zs.length := by
      simp [lits]
      omega
    rw [h1] at z
    exact Nat.le_trans (Nat.mul_le_mul_right _ hl2) z
end Go.Proofs.YteakjjimkagmkaaGreatDoorW.PrintWords
namespace Go.Proofs.YteakjjimkagmkaaGreatDoor.fnInsertionOrders
open Go.ChangeShapes Go.WideShapes Go.ChangeAt Go.RowKit
open Go.ChangeMaps (open_string shut_string)
open Go.Proofs.YteakjjimkagmkaaGreatDoorW.PrintWords Go.Proofs.YteakjjimkagmkaaGreatDoorW.PrintLast Go.Proofs.YteakjjimkagmkaaGreatDoorW.PrintMore
theorem own : ownKnob Tryz.prog.godebug = none := by kernel_rfl
theorem laidOut : laidOutB Tryz.prog = true := by kernel_rfl
def IsRow (k : IntKind) (w : World) (a : Option Addr) (len cap : Nat) (zs : List Int) : Prop :=
  (a = none ∧ len = 0 ∧ cap = 0 ∧ zs = []) ∨
  ∃ x, a = some x ∧ len ≤ cap ∧ cap ≤ maxLen ∧ zs.length = cap ∧ (∀ i, i < zs.length → w.cell? (x.add i) = some (.int k (zs.getD i 0))) ∧ ∀ n ∈ zs, (Lit.int k n).wf = true
theorem tab_of {w : World} (h : laidMetH Tryz.prog Rows.fnInsertionOrdersRow.laid w) : G.GT w := by
  rw [MakeChecks.laidMetH_plain _ _ _ (by kernel_rfl)] at h
  exact Lib.tabIs_of_head (g := 3) (t := 156) (e := 67) (n := 20) (by kernel_rfl) (by kernel_rfl) Tryz.underlying156 Tryz.underlying67 (by kernel_rfl) (by kernel_rfl) h.tail.tail
theorem star : "*" ++ "errors.errorString" = "*errors.errorString" := by decide
theorem one_row (u : TypeId) (h : Tryz.prog.typeName? 3 u = some "*errors.errorString") : u = 165 :=
  typeName_ptr_named (nm := "errors.errorString") (by rw [star]; kernel_rfl) (by kernel_rfl) (by decide) u (by rw [star]; exact h)
theorem all_of {w : World} (h : laidMetH Tryz.prog Rows.fnInsertionOrdersRow.laid w) (hs : w.ShapedOpen Tryz.prog) : G.GP w := by
  have ht := tab_of h
  rw [MakeChecks.laidMetH_plain _ _ _ (by kernel_rfl)] at h
  have h4 := h.tail.tail.tail.tail
  have h5 := h4.tail
  obtain ⟨a0, s0, hv0, -, -, -⟩ := laid_sentinel h4 (g := 2) (ti := 89) (tp := 165) (te := 167) (ts := 9) (by kernel_rfl) (by kernel_rfl) Tryz.underlying89 one_row Tryz.underlying165 Tryz.underlying167 rfl rfl Tryz.underlying9 (by kernel_rfl) (by kernel_rfl)
  obtain ⟨a1, s1, hv1, -, -, -⟩ := laid_sentinel h5 (g := 1) (ti := 89) (tp := 165) (te := 167) (ts := 9) (by kernel_rfl) (by kernel_rfl) Tryz.underlying89 one_row Tryz.underlying165 Tryz.underlying167 rfl rfl Tryz.underlying9 (by kernel_rfl) (by kernel_rfl)
  exact ⟨ht, ⟨_, _, hv1⟩, ⟨_, _, hv0⟩, Tryz.laysM146.s1_3 w hs⟩
set_option maxHeartbeats 4000000 in
set_option maxRecDepth 100000 in
theorem lifted (os : Os) (started : os.Started) (H : Type) (enc : TypeId × Value → H) :
    ReturnsInHanded {} Tryz.checked os 3 .any (fun w args => (Rows.fnInsertionOrdersSpec.pre enc Tryz.prog Tryz.f3 Rows.fnInsertionOrdersRow.domain false w args ∧ laidMetH Tryz.prog Rows.fnInsertionOrdersRow.laid w) ∧ sizedMet enc Tryz.prog Tryz.f3 (OpenSpec.ofChange Rows.fnInsertionOrdersSpec) false w args)
      (Rows.fnInsertionOrdersSpec.post enc Tryz.prog Tryz.f3 false true false false) := by
  refine returnsInHanded_of_calls (C := Tryz.checked) own started (by kernel_rfl)
    (ChangeSpec.witness_shaped (enc := enc) (C := Tryz.checked) (os := os) (X := fun w _ => laidMetH Tryz.prog Rows.fnInsertionOrdersRow.laid w) false (World.laidAll Tryz.prog os Rows.fnInsertionOrdersRow.laid) #[.slice none 0 0, .slice none 0 0] 8 (World.laidAll_os _ _ _)
      (World.shaped_of_ZipB (by kernel_rfl) (by kernel_rfl)) (by kernel_rfl) (by kernel_rfl) (by kernel_rfl)
      (by rw [MakeChecks.laidMetH_plain _ _ _ (by kernel_rfl)]; exact laidMet_laidAll _ (by kernel_rfl) (by kernel_rfl))) ?_
  intro w tape i _ hsh _ hok hpre _
  obtain ⟨_, _, _, fn', hfn', _, _, _, _, hval1⟩ := hok
  have e : fn' = Tryz.f3 := Option.some.inj (hfn'.symm.trans Tryz.func3)
  subst e
  obtain ⟨⟨⟨ds, gs, before, hw0, hcnd⟩, hL0⟩, hz⟩ := hpre
  have hL : laidMetH Tryz.prog Rows.fnInsertionOrdersRow.laid (w.forCall tape i) := hL0.of_heap (by rfl)
  have hW0 := DataW.Whole.of_heap (w' := w.forCall tape i) (by rfl) hw0
  have hsz1 := hz.weights hw0
  have hG := all_of hL hsh
  suffices hc : Calls Tryz.prog 3 i.args (w.forCall tape i) fun e W' => ∃ v, e = .returned v ∧ Rows.fnInsertionOrdersSpec.post enc Tryz.prog Tryz.f3 false true false false (w.forCall tape i) i.args v W' by
    refine hc.mono fun e W' ⟨v, he, hp⟩ => ?_
    subst he
    exact ChangeSpec.post_blind hp
  clear hw0 hz hcnd hL0
  revert hval1 hW0 hsz1 hG
  generalize w.forCall tape i = W
  generalize i.args = args
  intro hval0 hW hsz0 hG
  have hsz : (DataW.weightsEach Tryz.prog (Tryz.f3.params.toList ++ Rows.fnInsertionOrdersSpec.plain.varTypes Tryz.prog) (ds ++ gs)).all (· ≤ reachBytes) = true := hsz0
  have hval : ∀ (j : Nat) t v, Tryz.f3.params[j]? = some t → args[j]? = some v → Value.okWide Tryz.prog W .any _ t v := hval0
  have hW' := hW
  obtain ⟨p, q, hA0, hV, rfl, hfz, hnd⟩ := hW
  have hA : DataW.TrodAll enc Tryz.prog W 0 (fun _ => true) true Tryz.f3.params.toList args.toList ds p := hA0
  rw [Tryz.params3] at hA hval hsz
  obtain ⟨v0, vs0, d0, ds0, p0, q0, hargs, rfl, rfl, h0, r0⟩ := trodAll_cons hA
  obtain ⟨v1, vs1, d1, ds1, p1, q1, rfl, rfl, rfl, h1, r1⟩ := trodAll_cons r0
  obtain ⟨rfl, rfl, rfl⟩ := trodAll_nil r1
  obtain rfl : args = #[v0, v1] := by cases args; simp_all
  obtain ⟨rfl, rfl⟩ := trodVars_none hV
  obtain ⟨a0, len0, cap0, rfl⟩ := okWide_slice Tryz.underlying22 (hval 0 22 v0 rfl rfl)
  have k0 := h0
  have lt0 : ∀ x ∈ p0, x.block < W.heap.size := by obtain ⟨m, hm⟩ := k0; exact DataW.trod_lt m _ _ _ hm
  obtain ⟨z0, w0⟩ : ∃ zs, IsRow .u8 W a0 len0 cap0 zs := by
    obtain ⟨fuel, hf⟩ := h0
    rcases open_ints Tryz.underlying22 Tryz.underlying5 (by kernel_rfl) hf with ⟨hcs, _⟩ | ⟨x, l, c, zs, hcs, _, hl, hm, hz, _, hcell, hwz⟩
    · simp [Value.cells] at hcs
      obtain ⟨rfl, rfl, rfl⟩ := hcs
      exact ⟨[], .inl ⟨rfl, rfl, rfl, rfl⟩⟩
    · simp [Value.cells] at hcs
      obtain ⟨rfl, rfl, rfl⟩ := hcs
      exact ⟨zs, .inr ⟨_, rfl, hl, hm, by simpa using hz, hcell, hwz⟩⟩
  have y0 : len0 * 1 ≤ 140737488351232 := Go.Proofs.YteakjjimkagmkaaGreatDoorW.PrintWords.sized_ints hsz (j := 0) (t := 22) rfl rfl Tryz.underlying22 Tryz.underlying5 (by kernel_rfl) (by kernel_rfl) h0
  obtain ⟨a1, len1, cap1, rfl⟩ := okWide_slice Tryz.underlying22 (hval 1 22 v1 rfl rfl)
  have k1 := h1
  have lt1 : ∀ x ∈ p1, x.block < W.heap.size := by obtain ⟨m, hm⟩ := k1; exact DataW.trod_lt m _ _ _ hm
  obtain ⟨z1, w1⟩ : ∃ zs, IsRow .u8 W a1 len1 cap1 zs := by
    obtain ⟨fuel, hf⟩ := h1
    rcases open_ints Tryz.underlying22 Tryz.underlying5 (by kernel_rfl) hf with ⟨hcs, _⟩ | ⟨x, l, c, zs, hcs, _, hl, hm, hz, _, hcell, hwz⟩
    · simp [Value.cells] at hcs
      obtain ⟨rfl, rfl, rfl⟩ := hcs
      exact ⟨[], .inl ⟨rfl, rfl, rfl, rfl⟩⟩
    · simp [Value.cells] at hcs
      obtain ⟨rfl, rfl, rfl⟩ := hcs
      exact ⟨zs, .inr ⟨_, rfl, hl, hm, by simpa using hz, hcell, hwz⟩⟩
  have y1 : len1 * 1 ≤ 140737488351232 := Go.Proofs.YteakjjimkagmkaaGreatDoorW.PrintWords.sized_ints hsz (j := 1) (t := 22) rfl rfl Tryz.underlying22 Tryz.underlying5 (by kernel_rfl) (by kernel_rfl) h1
  clear hA0 hval0 hsz0 hsz
  obtain ⟨l0, rfl, hr0, hm0, hw0, hc0⟩ := ReadsInt.ofRowC w0
  obtain ⟨l1, rfl, hr1, hm1, hw1, hc1⟩ := ReadsInt.ofRowC w1
  obtain ⟨k, h⟩ := Pure.FnInsertionOrders l0 l1 hm0 y0 hw0 hm1 y1 hw1
  refine (G.laws_FnInsertionOrders.calls k _ _ l0 _ _ l1 true W (Kd.C_of_reads (d := (0 : Int)) (h1 := fun _ => rfl) hr0) hc0 (Kd.C_of_reads (d := (0 : Int)) (h1 := fun _ => rfl) hr1) hc1 hG h).mono fun e W' hee => ?_
  obtain ⟨he, bel⟩ := hee
  subst he
  exact ⟨_, rfl, _, _, _, [], _, [], hW', trodAll_mk1 (shut_bool Tryz.underlying4 _), (trodAll_cons_mk (Below.trod laidOut (by kernel_rfl) (of_decide_eq_true (by kernel_rfl)) k0 bel lt0) (trodAll_cons_mk (Below.trod laidOut (by kernel_rfl) (of_decide_eq_true (by kernel_rfl)) k1 bel lt1) trodAll_mk0)), rfl, bel.frame _, fun h => by cases h⟩
theorem over : Rows.fnInsertionOrdersRow.holds Tryz.pinned (OpenSpec.ofChange Rows.fnInsertionOrdersSpec) :=
  OpenClaim.holds_of_wide 3 Tryz.f3 rfl rfl rfl rfl rfl rfl rfl ⟨rfl, rfl, rfl, rfl, rfl⟩ rfl rfl rfl rfl rfl (by kernel_rfl) Tryz.func3 (by kernel_rfl)
    (of_decide_eq_true (by kernel_rfl)) (by unfold Func.isWrapper; first | (rw [if_pos (by decide +kernel)]; kernel_rfl) | (rw [if_neg (by decide +kernel)]; exact ⟨rfl, rfl⟩))
    (fun os started H enc _ => lifted os started H enc)
theorem card : Rows.FnInsertionOrdersCardSaid :=
  Claim7.holds_tied_plain_at .later [] [.data, .data, .data, .data, .sentinel, .sentinel, .pinned] true (true, "b3a46f501e9b3b8fd791b2366800c033d1b8a270243ca1b58b1aa0a976929d63") true over (fun _ h => by cases h) (by kernel_rfl) (fun _ h => by cases h) fnInsertionOrders_row_tie rfl ⟨rfl, rfl⟩ (by kernel_rfl) rfl
    (fun f fn hf hfn => by
      obtain rfl : f = 3 := Option.some.inj ((show Tryz.prog.funcNamed "loop.example/g01115/laws.FnInsertionOrders" = some 3 by kernel_rfl).symm.trans hf) |>.symm
      obtain rfl : fn = Tryz.f3 := (Option.some.inj (Tryz.func3.symm.trans hfn)).symm
      exact ⟨by kernel_rfl, fun j t ht => by
        rw [Tryz.params3] at ht
        have hm : t ∈ [22] := by simpa using Array.mem_of_getElem? ht
        have hall : ([22].all fun u => !Tryz.prog.wantsStandIn u) = true := by kernel_rfl
        exact (show Tryz.prog.wantsStandIn t = false by simpa using List.all_eq_true.1 hall t hm)⟩)
    (by kernel_rfl)
#print axioms over
#print axioms card
end Go.Proofs.YteakjjimkagmkaaGreatDoor.fnInsertionOrders
namespace Go.Proofs.YteakjjimkagmkaaGreatDoor
/-- The card, under a short name, for the claim. -/
theorem fnInsertionOrders_card : Rows.FnInsertionOrdersCardSaid := fnInsertionOrders.card
end Go.Proofs.YteakjjimkagmkaaGreatDoor
