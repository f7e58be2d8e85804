/- FnExprs without Go: a drawn expression is what its parts are. -/
import Derived.Test.YtnmhggdaccbbfaaMFnExprsx11
set_option linter.unusedVariables false
set_option linter.unusedSimpArgs false
set_option maxHeartbeats 400000
namespace Go.Proofs.Ytnmhggdaccbbfaa.Pure
open Go.RowKit Go.Proofs.Ytnmhggdaccbbfaa.MFnExprs Go.Proofs.YtnmhggdaccbbfaaW.PrintWords Go.Proofs.YtnmhggdaccbbfaaW.PrintLast
/-! ### base -/
theorem w64 {n : Int} (h : -9223372036854775808 ≤ n) (h' : n ≤ 9223372036854775807) : wrap64 n = n := by unfold wrap64; omega
theorem w64_succ {i m : Nat} (h : i < m) (hm : m ≤ 140737488351232) : wrap64 ((i : Int) + 1) = ((i + 1 : Nat) : Int) := by
  rw [w64 (by omega) (by omega)]; omega
theorem w64_bt (s : ByteArray) (i : Int) : wrap64 (bt s i) = bt s i := by
  have := bt_range s i
  exact w64 (by omega) (by omega)
/-- A string's bytes as numbers. -/
def bs (s : ByteArray) : List Int := s.data.toList.map fun b => (b.toNat : Int)
theorem bs_length (s : ByteArray) : (bs s).length = s.size := by simp [bs]
theorem bs_get (s : ByteArray) (i : Nat) (h : i < s.size) : (bs s)[i]? = some (bt s i) := by
  have h2 : i < s.data.toList.length := by simpa using h
  simp only [bs, List.getElem?_map, List.getElem?_eq_getElem h2, Option.map_some]
  unfold bt
  rw [dif_pos (by simpa using h)]
  rfl
theorem bs_drop (s : ByteArray) (i : Nat) (h : i < s.size) : (bs s).drop i = bt s i :: (bs s).drop (i + 1) := by
  have h2 : i < (bs s).length := by rw [bs_length]; exact h
  rw [List.drop_eq_getElem_cons h2]
  congr 1
  have := bs_get s i h
  rw [List.getElem?_eq_getElem h2] at this
  exact Option.some.inj this
theorem bs_drop_nil (s : ByteArray) (i : Nat) (h : s.size ≤ i) : (bs s).drop i = [] := List.drop_eq_nil_of_le (by rw [bs_length]; exact h)
theorem bs_range {s : ByteArray} {c : Int} (h : c ∈ bs s) : 0 ≤ c ∧ c ≤ 255 := by
  simp only [bs, List.mem_map] at h
  obtain ⟨b, _, rfl⟩ := h
  have := b.toNat_lt
  omega
theorem bs_inj {s t : ByteArray} (h : bs s = bs t) : s = t := by
  have hd : s.data.toList = t.data.toList := by
    refine List.map_inj_right (f := fun b : UInt8 => (b.toNat : Int)) (fun a b hab => ?_) |>.1 h
    have hab2 : (a.toNat : Int) = b.toNat := hab
    exact UInt8.toNat_inj.1 (by omega)
  cases s; cases t
  simp only [ByteArray.mk.injEq]
  exact Array.toList_inj.1 hd
theorem bs_str {xs : List Int} (h : ∀ x ∈ xs, 0 ≤ x ∧ x ≤ 255) : bs (strOfNums xs) = xs := by
  unfold bs strOfNums
  simp only [List.map_map]
  conv => rhs; rw [← List.map_id xs]
  refine List.map_congr_left fun x hx => ?_
  have := h x hx
  simp only [Function.comp, id, UInt8.toNat_ofNat']
  omega
theorem str_bs (s : ByteArray) : strOfNums (bs s) = s := bs_inj (bs_str fun _ hx => bs_range hx)
theorem str_size (xs : List Int) : (strOfNums xs).size = xs.length := by
  show ((xs.map fun n => UInt8.ofNat n.toNat).toArray).size = xs.length
  simp
theorem bs_append (s t : ByteArray) : bs (s ++ t) = bs s ++ bs t := by
  simp [bs]
theorem bs_empty : bs (⟨#[]⟩ : ByteArray) = [] := rfl
theorem bt_str {xs : List Int} (h : ∀ x ∈ xs, 0 ≤ x ∧ x ≤ 255) (i : Nat) (hi : i < xs.length) : bt (strOfNums xs) i = rd xs i := by
  have h1 := bs_get (strOfNums xs) i (by rw [str_size]; exact hi)
  rw [bs_str h] at h1
  unfold rd
  rw [List.getD_eq_getElem?_getD, Int.toNat_natCast, h1]
  rfl
theorem bt_bs (s : ByteArray) (i : Int) : bt s i = rd (bs s) i := by
  unfold rd
  rw [List.getD_eq_getElem?_getD]
  by_cases h : i.toNat < s.size
  · have := bs_get s i.toNat h
    rw [this]
    unfold bt
    simp only [Int.toNat_natCast]
    rw [dif_pos h]
    rfl
  · rw [List.getElem?_eq_none (by rw [bs_length]; omega)]
    unfold bt
    rw [dif_neg h]
    rfl
theorem toList_eq {s t : ByteArray} : s.toList = t.toList ↔ s = t := by
  rw [ByteArray.toList_eq, ByteArray.toList_eq]
  constructor
  · intro h; cases s; cases t; simpa [Array.toList_inj] using h
  · rintro rfl; rfl
theorem tdiv_e {n : Int} (h : 0 ≤ n) (m : Int) : Int.tdiv n m = n / m := Int.tdiv_eq_ediv_of_nonneg h
theorem tmod_e {n : Int} (h : 0 ≤ n) (m : Int) : Int.tmod n m = n % m := Int.tmod_eq_emod_of_nonneg h

/-! ### lists -/
theorem drop_get {α : Type} (xs : List α) (i : Nat) (h : i < xs.length) : xs.drop i = xs[i] :: xs.drop (i + 1) := List.drop_eq_getElem_cons h
theorem w64_len {i n : Nat} (h : i < n) (hn : n ≤ 9223372036854775807) : wrap64 ((i : Int) + 1) = ((i + 1 : Nat) : Int) := by
  rw [w64 (by omega) (by omega)]; omega
theorem take_set {α : Type} (acc : List α) (i : Nat) (v : α) (h : i < acc.length) : (acc.set i v).take (i + 1) = acc.take i ++ [v] := by
  rw [List.take_add_one, List.getElem?_set_self h, List.take_set_of_le (Nat.le_refl i)]; rfl

/-! ### draw -/
/-! what is drawn: the cursor stays within the code; each answer within its bounds -/
theorem and255_range (x : Int) : 0 ≤ Go.bits .and .i64 x 255 ∧ Go.bits .and .i64 x 255 ≤ 255 := by
  have h : Go.bits .and .i64 x 255 = IntKind.i64.wrap (((BitVec.ofInt 64 x) &&& (BitVec.ofInt 64 255)).toNat : Int) := rfl
  have h2 : ((BitVec.ofInt 64 x) &&& (BitVec.ofInt 64 255)).toNat ≤ 255 := by
    rw [BitVec.toNat_and, show (BitVec.ofInt 64 255).toNat = 255 from by decide]
    exact Nat.and_le_right
  rw [h, IntKind.wrap_i64]
  omega
theorem l01New_l0 (b : List Int) (hb : b.length ≤ 140737488351232) (d : Nat) : ∀ (k i : Nat) (h : Int), 4000 - i ≤ d → d < k → i ≤ 4000 → ∃ h', spec_l01New.l0 k b h (i : Int) = some (b, 0, h') := by
  induction d with
  | zero =>
    intro k i h hd hk hi
    obtain ⟨k, rfl⟩ : ∃ m, k = m + 1 := ⟨k - 1, by omega⟩
    rw [spec_l01New.l0]
    by_cases c : (i : Int) < (b.length : Int)
    · rw [if_pos c, if_neg (by omega)]; exact ⟨_, rfl⟩
    · rw [if_neg c]; exact ⟨_, rfl⟩
  | succ d ih =>
    intro k i h hd hk hi
    obtain ⟨k, rfl⟩ : ∃ m, k = m + 1 := ⟨k - 1, by omega⟩
    rw [spec_l01New.l0]
    by_cases c : (i : Int) < (b.length : Int)
    · rw [if_pos c]
      by_cases c2 : (i : Int) < 4000
      · rw [if_pos c2, if_pos (by omega), w64_len (n := 4000) (by omega) (by omega)]
        exact ih k (i + 1) _ (by omega) (by omega) (by omega)
      · rw [if_neg c2]; exact ⟨_, rfl⟩
    · rw [if_neg c]; exact ⟨_, rfl⟩
theorem l01New_is (b : List Int) (hb : b.length ≤ 140737488351232) (k : Nat) (hk : 4001 ≤ k) : ∃ h', spec_l01New.f k b = some (b, 0, h') := by
  unfold spec_l01New.f
  exact l01New_l0 b hb 4000 k 0 _ (by omega) (by omega) (by omega)
/-- The cursor stands within the code. -/
def At (b : List Int) (i : Int) : Prop := b.length ≤ 140737488351232 ∧ 0 ≤ i ∧ i ≤ (b.length : Int)
theorem l01Byte_is (b : List Int) (i h : Int) (hi : At b i) : ∃ r i' h', spec_l01Byte.f b i h = some (r, i', h') ∧ (0 ≤ r ∧ r ≤ 255) ∧ At b i' := by
  obtain ⟨hb, h0, h1⟩ := hi
  unfold spec_l01Byte.f
  by_cases c : i < (b.length : Int)
  · rw [if_pos c, if_pos h0]
    refine ⟨_, _, _, rfl, and255_range _, hb, ?_⟩
    rw [w64 (by omega) (by omega)]
    omega
  · rw [if_neg c]
    exact ⟨_, _, _, rfl, and255_range _, hb, h0, h1⟩
theorem l01Below_is (b : List Int) (i h : Int) (hi : At b i) (n : Int) (hn : 0 < n) : ∃ r i' h', spec_l01Below.f b i h n = some (r, i', h') ∧ (0 ≤ r ∧ r < n) ∧ At b i' := by
  unfold spec_l01Below.f
  rw [if_neg (by omega)]
  by_cases c : n ≤ 256
  · obtain ⟨r, i', h', e, hr, ha⟩ := l01Byte_is b i h hi
    rw [if_pos c, e, Option.bind_some, if_neg (by omega)]
    refine ⟨_, _, _, rfl, ?_, ha⟩
    show 0 ≤ Int.tmod r n ∧ Int.tmod r n < n
    rw [tmod_e hr.1]
    exact ⟨Int.emod_nonneg _ (by omega), Int.emod_lt_of_pos _ hn⟩
  · obtain ⟨r1, i1, h1, e1, b1, a1⟩ := l01Byte_is b i h hi
    obtain ⟨r2, i2, h2, e2, b2, a2⟩ := l01Byte_is b i1 h1 a1
    obtain ⟨r3, i3, h3, e3, b3, a3⟩ := l01Byte_is b i2 h2 a2
    obtain ⟨r4, i4, h4, e4, b4, a4⟩ := l01Byte_is b i3 h3 a3
    rw [if_neg c, e1, Option.bind_some, e2, Option.bind_some, e3, Option.bind_some, e4, Option.bind_some, if_neg (by omega)]
    refine ⟨_, _, _, rfl, ?_, a4⟩
    show 0 ≤ Int.tmod (wrap64 (wrap64 (wrap64 (wrap64 (r1 * 16777216) + wrap64 (r2 * 65536)) + wrap64 (r3 * 256)) + r4)) n ∧ Int.tmod (wrap64 (wrap64 (wrap64 (wrap64 (r1 * 16777216) + wrap64 (r2 * 65536)) + wrap64 (r3 * 256)) + r4)) n < n
    have hx : 0 ≤ wrap64 (wrap64 (wrap64 (wrap64 (r1 * 16777216) + wrap64 (r2 * 65536)) + wrap64 (r3 * 256)) + r4) := by
      rw [w64 (n := r1 * 16777216) (by omega) (by omega), w64 (n := r2 * 65536) (by omega) (by omega), w64 (n := r3 * 256) (by omega) (by omega), w64 (n := r1 * 16777216 + r2 * 65536) (by omega) (by omega),
        w64 (n := r1 * 16777216 + r2 * 65536 + r3 * 256) (by omega) (by omega), w64 (by omega) (by omega)]
      omega
    rw [tmod_e hx]
    exact ⟨Int.emod_nonneg _ (by omega), Int.emod_lt_of_pos _ hn⟩

/-! ### drawPickS -/
theorem l01Pick_is (b : List Int) (i h : Int) (hi : At b i) (xs : List ByteArray) (hx : xs ≠ []) : ∃ r i' h', spec_l01Pick.f b i h xs = some (r, i', h') ∧ r ∈ xs ∧ At b i' := by
  have hl : 0 < xs.length := List.length_pos_iff.2 hx
  obtain ⟨r, i', h', e, hr, ha⟩ := l01Below_is b i h hi (xs.length : Int) (by omega)
  unfold spec_l01Pick.f
  rw [e, Option.bind_some, if_pos hr.1, if_pos hr.2]
  refine ⟨_, _, _, rfl, ?_, ha⟩
  show rdOf ByteArray.empty xs r ∈ xs
  unfold rdOf
  rw [List.getD_eq_getElem?_getD, List.getElem?_eq_getElem (by omega), Option.getD_some]
  exact List.getElem_mem _

/-! ### drawPick -/
theorem l01PickInt_is (b : List Int) (i h : Int) (hi : At b i) (xs : List Int) (hx : xs ≠ []) : ∃ r i' h', spec_l01PickInt.f b i h xs = some (r, i', h') ∧ r ∈ xs ∧ At b i' := by
  have hl : 0 < xs.length := List.length_pos_iff.2 hx
  obtain ⟨r, i', h', e, hr, ha⟩ := l01Below_is b i h hi (xs.length : Int) (by omega)
  unfold spec_l01PickInt.f
  rw [e, Option.bind_some, if_pos hr.1, if_pos hr.2]
  refine ⟨_, _, _, rfl, ?_, ha⟩
  show rd xs r ∈ xs
  unfold rd
  rw [List.getD_eq_getElem?_getD, List.getElem?_eq_getElem (by omega), Option.getD_some]
  exact List.getElem_mem _

/-! ### varNameB -/
/-- 1 to 4 letters a-z. -/
def small (c : Int) : Bool := decide (97 ≤ c ∧ c ≤ 122)
def varNameB (s : ByteArray) : Bool := (bs s).all small && decide (1 ≤ (s.size : Int) ∧ (s.size : Int) ≤ 4)

/-! ### ev -/
theorem Ev.shift {α : Type} {g f : Nat → Option α} {r : α} (c : Nat) (h : ∀ k, g (k + c) = f k) (k : Ev f r) : Ev g r := by
  obtain ⟨K, k⟩ := k
  refine ⟨K + c, fun n hn => ?_⟩
  obtain ⟨m, rfl⟩ : ∃ m, n = m + c := ⟨n - c, by omega⟩
  rw [h]
  exact k m (by omega)
theorem Ev.from {α : Type} {g : Nat → Option α} {r : α} (B : Nat) (h : ∀ k, B < k → g k = some r) : Ev g r := ⟨B + 1, fun k hk => h k (by omega)⟩
theorem Ev.always {α : Type} {g : Nat → Option α} {r : α} (h : ∀ k, g k = some r) : Ev g r := ⟨0, fun k _ => h k⟩

/-! ### gen -/
/-! ### loops told once: over a list, place by place -/
theorem gen_to {α β : Type} (L : Nat → List α → List β → Int → Option (List β)) (c : α → β) (xs : List α) (K : Nat)
    (hstep : ∀ (k i : Nat) (acc : List β) (h : i < xs.length), acc.length = xs.length → K ≤ k → L (k + 1) xs acc (i : Int) = L k xs (acc.set i (c xs[i])) ((i + 1 : Nat) : Int))
    (hend : ∀ (k : Nat) (acc : List β), L (k + 1) xs acc (xs.length : Int) = some acc) (k : Nat) (acc : List β) (hk : K + xs.length < k) (ha : acc.length = xs.length) : L k xs acc 0 = some (xs.map c) := by
  have go : ∀ (d k i : Nat) (acc : List β), xs.length - i ≤ d → K + d < k → i ≤ xs.length → acc.length = xs.length → acc.take i = (xs.take i).map c → L k xs acc (i : Int) = some (xs.map c) := by
    intro d
    induction d with
    | zero =>
      intro k i acc hd hk hi ha ht
      obtain ⟨k, rfl⟩ : ∃ m, k = m + 1 := ⟨k - 1, by omega⟩
      obtain rfl : i = xs.length := by omega
      rw [hend]
      rw [List.take_length, ← ha, List.take_length] at ht
      rw [ht]
    | succ d ih =>
      intro k i acc hd hk hi ha ht
      obtain ⟨k, rfl⟩ : ∃ m, k = m + 1 := ⟨k - 1, by omega⟩
      by_cases hi2 : i < xs.length
      · rw [hstep k i acc hi2 ha (by omega)]
        refine ih k (i + 1) _ (by omega) (by omega) (by omega) (by rw [List.length_set]; exact ha) ?_
        rw [take_set acc i _ (by omega), ht, List.take_add_one, List.getElem?_eq_getElem hi2, List.map_append]
        rfl
      · obtain rfl : i = xs.length := by omega
        rw [hend]
        rw [List.take_length, ← ha, List.take_length] at ht
        rw [ht]
  exact go xs.length k 0 acc (by omega) hk (by omega) ha (by simp)
theorem gen_eq {β : Type} (L : Nat → List β → List β → Int → Option Bool) (xs : List β) (K : Nat)
    (hstep : ∀ (k i : Nat), i < xs.length → K ≤ k → L (k + 1) xs xs (i : Int) = L k xs xs ((i + 1 : Nat) : Int))
    (hend : ∀ k : Nat, L (k + 1) xs xs (xs.length : Int) = some true) (k : Nat) (hk : K + xs.length < k) : L k xs xs 0 = some true := by
  have go : ∀ (d k i : Nat), xs.length - i ≤ d → K + d < k → i ≤ xs.length → L k xs xs (i : Int) = some true := by
    intro d
    induction d with
    | zero =>
      intro k i hd hk hi
      obtain ⟨k, rfl⟩ : ∃ m, k = m + 1 := ⟨k - 1, by omega⟩
      obtain rfl : i = xs.length := by omega
      exact hend k
    | succ d ih =>
      intro k i hd hk hi
      obtain ⟨k, rfl⟩ : ∃ m, k = m + 1 := ⟨k - 1, by omega⟩
      by_cases hi2 : i < xs.length
      · rw [hstep k i hi2 (by omega)]
        exact ih k (i + 1) (by omega) (by omega) (by omega)
      · obtain rfl : i = xs.length := by omega
        exact hend k
  exact go xs.length k 0 (by omega) hk (by omega)
theorem gen_sz {α : Type} (L : Nat → List α → Int → Int → Option Int) (xs : List α) (P : α → Prop) (K : Nat)
    (hstep : ∀ (k i : Nat) (left : Int) (h : i < xs.length), 0 ≤ left → left ≤ 1048576 → K ≤ k → L (k + 1) xs left (i : Int) = some (-1) ∨ ∃ t, 0 ≤ t ∧ t ≤ left ∧ P xs[i] ∧ L (k + 1) xs left (i : Int) = L k xs t ((i + 1 : Nat) : Int))
    (hend : ∀ (k : Nat) (left : Int), L (k + 1) xs left (xs.length : Int) = some left) (k : Nat) (left : Int) (hk : K + xs.length < k) (h0 : 0 ≤ left) (h1 : left ≤ 1048576) :
    L k xs left 0 = some (-1) ∨ ∃ r, L k xs left 0 = some r ∧ 0 ≤ r ∧ r ≤ left ∧ ∀ y ∈ xs, P y := by
  have go : ∀ (d k i : Nat) (left : Int), xs.length - i ≤ d → K + d < k → i ≤ xs.length → 0 ≤ left → left ≤ 1048576 → L k xs left (i : Int) = some (-1) ∨ ∃ r, L k xs left (i : Int) = some r ∧ 0 ≤ r ∧ r ≤ left ∧ ∀ y ∈ xs.drop i, P y := by
    intro d
    induction d with
    | zero =>
      intro k i left hd hk hi h0 h1
      obtain ⟨k, rfl⟩ : ∃ m, k = m + 1 := ⟨k - 1, by omega⟩
      obtain rfl : i = xs.length := by omega
      exact .inr ⟨left, hend k left, h0, Int.le_refl _, by simp⟩
    | succ d ih =>
      intro k i left hd hk hi h0 h1
      obtain ⟨k, rfl⟩ : ∃ m, k = m + 1 := ⟨k - 1, by omega⟩
      by_cases hi2 : i < xs.length
      · rcases hstep k i left hi2 h0 h1 (by omega) with h | ⟨t, t0, t1, hp, h⟩
        · exact .inl h
        · rw [h]
          rcases ih k (i + 1) t (by omega) (by omega) (by omega) t0 (by omega) with h | ⟨r, hr, r0, r1, ha⟩
          · exact .inl h
          · refine .inr ⟨r, hr, r0, by omega, fun y hy => ?_⟩
            rw [drop_get xs i hi2, List.mem_cons] at hy
            rcases hy with rfl | hy
            · exact hp
            · exact ha y hy
      · obtain rfl : i = xs.length := by omega
        exact .inr ⟨left, hend k left, h0, Int.le_refl _, by simp⟩
  have := go xs.length k 0 left (by omega) hk (by omega) h0 h1
  simpa using this

/-! ### rdInt -/
theorem rdInt (xs : List Int) (i : Nat) (h : i < xs.length) : rd xs (i : Int) = xs[i] := by simp [rd, List.getD, h]

/-! ### within -/
theorem within_is (a b c : Int) : impl_within.f a b c = some (decide (b ≤ a ∧ a ≤ c)) := by
  unfold impl_within.f
  by_cases h : a ≥ b
  · rw [if_pos h]; simp [show b ≤ a from h]
  · rw [if_neg h]; simp [show ¬ b ≤ a from h]

/-! ### kidsAhead -/
def kidIn (i : Nat) (c : Int) : Bool := decide (0 ≤ c ∧ c ≤ (i : Int) - 1)
def kidsIn (i : Nat) (ks : List Int) : Bool := ks.all (kidIn i)
theorem kidsIn_cons (i : Nat) (c : Int) (ks : List Int) : kidsIn i (c :: ks) = (kidIn i c && kidsIn i ks) := by simp [kidsIn]
theorem implKidsAhead_is (ks : List Int) (hl : ks.length ≤ 1048576) (i : Nat) (hi : i ≤ 9223372036854775807) (k : Nat) (hk : ks.length < k) : impl_kidsAhead.f k ks (i : Int) = some (kidsIn i ks) := by
  have go : ∀ (d k j : Nat), ks.length - j ≤ d → d < k → impl_kidsAhead.l0 k (i : Int) ks (ks.length : Int) (j : Int) = some (kidsIn i (ks.drop j)) := by
    intro d
    induction d with
    | zero =>
      intro k j hd hk
      obtain ⟨k, rfl⟩ : ∃ m, k = m + 1 := ⟨k - 1, by omega⟩
      rw [impl_kidsAhead.l0, if_neg (by omega), List.drop_eq_nil_of_le (by omega)]; rfl
    | succ d ih =>
      intro k j hd hk
      obtain ⟨k, rfl⟩ : ∃ m, k = m + 1 := ⟨k - 1, by omega⟩
      by_cases hj : j < ks.length
      · rw [impl_kidsAhead.l0, if_pos (by omega), if_pos (by omega), if_pos (by omega), rdInt ks j hj, within_is, Option.bind_some, w64 (n := (i : Int) - 1) (by omega) (by omega), w64_len hj (by omega), ih k (j + 1) (by omega) (by omega), drop_get ks j hj, kidsIn_cons]
        rw [show decide (0 ≤ ks[j] ∧ ks[j] ≤ (i : Int) - 1) = kidIn i ks[j] from rfl]
        by_cases hc : kidIn i ks[j] = true
        · rw [if_pos hc, hc, Bool.true_and]
        · rw [if_neg hc, show kidIn i ks[j] = false from by simpa using hc, Bool.false_and]
      · rw [impl_kidsAhead.l0, if_neg (by omega), List.drop_eq_nil_of_le (by omega)]; rfl
  unfold impl_kidsAhead.f
  exact go ks.length k 0 (by omega) hk

/-! ### exprOk -/
theorem rdE (xs : List S34) (i : Nat) (h : i < xs.length) : rd_T34 xs (i : Int) = xs[i] := by simp [rd_T34, List.getD, h]
def kidsOf (op : Int) : Int := if op = 1 ∨ op = 2 ∨ op = 3 then 0 else if op = 11 then 1 else 2
def numOk (op num : Int) : Bool := if op = 1 then decide (0 ≤ num ∧ num ≤ 99) else decide (num = 0)
def nameOk (op : Int) (s : ByteArray) : Bool := if op = 2 then varNameB s else decide (s.toList = ([] : List UInt8))
/-- A node is right at its place. -/
def nodeB (i : Nat) (y : S34) : Bool := decide (1 ≤ y.f0 ∧ y.f0 ≤ 11) && decide ((y.f3.length : Int) = kidsOf y.f0) && numOk y.f0 y.f1 && nameOk y.f0 y.f2 && kidsIn i y.f3
def nodesB : Nat → List S34 → Bool
  | _, [] => true
  | i, y :: l => nodeB i y && nodesB (i + 1) l
/-- An expression is right. -/
def exprOkB (xs : List S34) : Bool := nodesB 0 xs && decide (1 ≤ (xs.length : Int) ∧ (xs.length : Int) ≤ 20)
def smallX (xs : List S34) : Prop := xs.length ≤ 1048576 ∧ ∀ y ∈ xs, y.f2.size ≤ 1048576 ∧ y.f3.length ≤ 1048576
theorem bne_nil (s : ByteArray) : (s.toList != ([] : List UInt8)) = !decide (s.toList = ([] : List UInt8)) := by
  cases h : s.toList <;> simp

/-! ### exprFacts -/
theorem nodesB_at (xs : List S34) : ∀ (j : Nat), nodesB j xs = true → ∀ (i : Nat) (h : i < xs.length), nodeB (j + i) xs[i] = true := by
  induction xs with
  | nil => intro j _ i h; simp at h
  | cons y l ih =>
    intro j hn i h
    have hn2 : nodeB j y = true ∧ nodesB (j + 1) l = true := by simpa [nodesB] using hn
    cases i with
    | zero => exact hn2.1
    | succ i =>
      have := ih (j + 1) hn2.2 i (by simpa using h)
      rw [show j + (i + 1) = j + 1 + i from by omega]
      simpa using this
/-- What is known of a node of a right expression. -/
theorem node_facts {xs : List S34} (ho : exprOkB xs = true) (i : Nat) (h : i < xs.length) : (1 ≤ xs[i].f0 ∧ xs[i].f0 ≤ 11) ∧ (xs[i].f3.length : Int) = kidsOf xs[i].f0 ∧ ∀ c ∈ xs[i].f3, 0 ≤ c ∧ c < (i : Int) := by
  have h1 : nodesB 0 xs = true := by
    unfold exprOkB at ho
    rw [Bool.and_eq_true] at ho
    exact ho.1
  have h2 := nodesB_at xs 0 h1 i h
  rw [Nat.zero_add] at h2
  unfold nodeB at h2
  simp only [Bool.and_eq_true, decide_eq_true_eq] at h2
  obtain ⟨⟨⟨⟨a, b⟩, _⟩, _⟩, d⟩ := h2
  refine ⟨a, b, fun c hc => ?_⟩
  have := List.all_eq_true.1 d c hc
  have : 0 ≤ c ∧ c ≤ (i : Int) - 1 := by simpa [kidIn] using this
  omega
theorem expr_pos {xs : List S34} (ho : exprOkB xs = true) : 1 ≤ xs.length ∧ xs.length ≤ 20 := by
  unfold exprOkB at ho
  rw [Bool.and_eq_true, decide_eq_true_eq] at ho
  omega
theorem rd_in (ks : List Int) (c : Int) (h0 : 0 ≤ c) (h1 : c < ks.length) : rd ks c ∈ ks := by
  obtain ⟨n, rfl⟩ := Int.eq_ofNat_of_zero_le h0
  rw [rdInt ks n (by omega)]
  exact List.getElem_mem _

/-! ### drawExpr -/
/-! what is drawn of expressions: right nodes, few of them -/
def nm3 : List ByteArray := [(⟨#[97]⟩ : ByteArray), (⟨#[98]⟩ : ByteArray), (⟨#[110]⟩ : ByteArray)]
theorem l04Kids_is (op : Int) : spec_l04Kids.f 2 op = some (kidsOf op) := by
  unfold spec_l04Kids.f kidsOf
  by_cases h1 : op = 1
  · rw [if_pos h1, if_pos (.inl h1), h1]; rfl
  by_cases h2 : op = 2
  · rw [if_neg h1, if_pos h2, if_pos (.inr (.inl h2)), h2]; rfl
  by_cases h3 : op = 3
  · rw [if_neg h1, if_neg h2, if_pos (.inr (.inr h3)), h3]; rfl
  rw [if_neg h1, if_neg h2, if_neg (by omega), spec_l04Kids.j0, show (op == 3) = false from beq_eq_false_iff_ne.2 h3, if_neg (by simp)]
  by_cases h11 : op = 11
  · rw [if_pos h11, if_pos h11]
  · rw [if_neg h11, if_neg h11]
theorem nodesB_append (l l' : List S34) : ∀ j : Nat, nodesB j (l ++ l') = (nodesB j l && nodesB (j + l.length) l') := by
  induction l with
  | nil => intro j; rfl
  | cons y l ih =>
    intro j
    show (nodeB j y && nodesB (j + 1) (l ++ l')) = ((nodeB j y && nodesB (j + 1) l) && nodesB (j + (l.length + 1)) l')
    rw [ih, Bool.and_assoc, show j + 1 + l.length = j + (l.length + 1) from by omega]
theorem l01Once_is (b : List Int) (i h : Int) (hi : At b i) : ∃ (r : Bool) (i' h' : Int), spec_l01Once.f b i h 3 = some (r, i', h') ∧ At b i' := by
  obtain ⟨r, i', h', e, hr, ha⟩ := l01Below_is b i h hi 3 (by omega)
  unfold spec_l01Once.f
  rw [e]
  exact ⟨_, _, _, rfl, ha⟩
theorem madeOp_is (b : List Int) (deep i h : Int) (hi : At b i) : ∃ op i' h', made.op b deep i h = some (op, i', h') ∧ At b i' ∧ 1 ≤ op ∧ op ≤ 11 ∧ (deep ≤ 0 → op ≤ 3) := by
  unfold made.op
  obtain ⟨r, i1, h1, e1, m1, a1⟩ := l01PickInt_is b i h hi [1, 1, 2, 2, 3] (by simp)
  have hr : 1 ≤ r ∧ r ≤ 3 := by
    simp only [List.mem_cons, List.not_mem_nil, or_false] at m1
    omega
  rw [e1, Option.bind_some]
  by_cases c : deep > 0
  · rw [if_pos c]
    obtain ⟨o, i2, h2, e2, a2⟩ := l01Once_is b i1 h1 a1
    show ∃ op i' h', ((spec_l01Once.f b i1 h1 3).bind _ : Option _) = _ ∧ _
    rw [e2, Option.bind_some]
    by_cases d : o = true
    · rw [if_pos d]
      exact ⟨r, i2, h2, rfl, a2, hr.1, by omega, by omega⟩
    · rw [if_neg d]
      obtain ⟨q, i3, h3, e3, m3, a3⟩ := l01PickInt_is b i2 h2 a2 [4, 4, 5, 6, 7, 8, 9, 10, 11] (by simp)
      have hq : 4 ≤ q ∧ q ≤ 11 := by
        simp only [List.mem_cons, List.not_mem_nil, or_false] at m3
        omega
      show ∃ op i' h', ((spec_l01PickInt.f b i2 h2 [4, 4, 5, 6, 7, 8, 9, 10, 11]).bind _ : Option _) = _ ∧ _
      rw [e3, Option.bind_some]
      exact ⟨q, i3, h3, rfl, a3, by omega, by omega, by omega⟩
  · rw [if_neg c]
    exact ⟨r, i1, h1, rfl, a1, hr.1, by omega, fun _ => hr.2⟩
/-- What is told of a call: the row goes on by right nodes, fewer than m; the last one's place is handed back. -/
def MadeOk (b : List Int) (m : Nat) (out : List S34) (res : Option (Int × Int × Int × List S34)) : Prop :=
  ∃ new r i' h', res = some (r, i', h', out ++ new) ∧ 0 < new.length ∧ new.length ≤ m ∧ r = ((out ++ new).length : Int) - 1 ∧ At b i' ∧ nodesB out.length new = true
theorem madeFin_is (b : List Int) (out : List S34) (x : S34) (i h : Int) (hi : At b i) (hl : out.length < 1000) (hx : nodeB out.length x = true) : MadeOk b 1 out (made.fin x i h out) := by
  unfold made.fin
  rw [if_pos (by omega)]
  refine ⟨[x], _, i, h, rfl, by simp, by simp, ?_, hi, by show (nodeB out.length x && true) = true; rw [hx]; rfl⟩
  rw [w64 (by simp only [List.length_append, List.length_singleton]; omega) (by simp only [List.length_append, List.length_singleton]; omega)]
theorem madeKids_is (b : List Int) (rec : Int → Int → List S34 → Option (Int × Int × Int × List S34)) (m : Nat) (lim : Nat) (hlim : lim ≤ 1000)
    (hrec : ∀ i h out, At b i → out.length + m < lim → MadeOk b m out (rec i h out)) (n : Nat) (d : Nat) : ∀ (k x : Nat) (ks : List Int) (i h : Int) (out : List S34), n - x = d → d < k → x ≤ n → ks.length ≤ x → At b i → out.length + d * m < lim → (d = 0 → True) → (∀ c ∈ ks, 0 ≤ c ∧ c < (out.length : Int)) → n ≤ 2 →
      ∃ new ks' i' h', made.kids rec (n : Int) k (x : Int) ks i h out = some (ks', i', h', out ++ new) ∧ new.length ≤ d * m ∧ At b i' ∧ nodesB out.length new = true ∧ ks'.length = ks.length + d ∧ ∀ c ∈ ks', 0 ≤ c ∧ c < ((out ++ new).length : Int) := by
  induction d with
  | zero =>
    intro k x ks i h out hd hk hx hks hi hl _ hc hn
    obtain ⟨k, rfl⟩ : ∃ q, k = q + 1 := ⟨k - 1, by omega⟩
    rw [made.kids, if_neg (by omega)]
    exact ⟨[], ks, i, h, by rw [List.append_nil], by simp, hi, rfl, rfl, by rw [List.append_nil]; exact hc⟩
  | succ d ih =>
    intro k x ks i h out hd hk hx hks hi hl _ hc hn
    obtain ⟨k, rfl⟩ : ∃ q, k = q + 1 := ⟨k - 1, by omega⟩
    have hm : (d + 1) * m = d * m + m := Nat.succ_mul d m
    obtain ⟨new, r, i1, h1, e, hp, hle, hr, ha, hnb⟩ := hrec i h out hi (by omega)
    rw [made.kids, if_pos (by omega), e, Option.bind_some, if_pos (by omega), w64 (by omega) (by omega)]
    obtain ⟨new2, ks2, i2, h2, e2, hl2, ha2, hn2, hk2, hc2⟩ := ih k (x + 1) (ks ++ [r]) i1 h1 (out ++ new) (by omega) (by omega) (by omega) (by simp; omega) ha (by rw [List.length_append]; omega) (fun _ => trivial) (by
      intro c hcc
      rw [List.mem_append, List.mem_singleton] at hcc
      rw [List.length_append] at hr ⊢
      rcases hcc with hcc | rfl
      · have := hc c hcc; omega
      · omega) hn
    refine ⟨new ++ new2, ks2, i2, h2, ?_, by rw [List.length_append]; omega, ha2, ?_, by rw [hk2, List.length_append, List.length_singleton]; omega, by rw [← List.append_assoc]; exact hc2⟩
    · rw [← List.append_assoc]
      have e3 : ((x : Int) + 1) = ((x + 1 : Nat) : Int) := by omega
      rw [e3]
      exact e2
    · rw [nodesB_append, hnb]
      rw [List.length_append] at hn2
      rw [hn2]
      rfl
theorem nm3_ok {s : ByteArray} (h : s ∈ nm3) : varNameB s = true := by
  simp only [nm3, List.mem_cons, List.not_mem_nil, or_false] at h
  rcases h with rfl | rfl | rfl <;> decide
theorem madeSw_is (b : List Int) (rec : Int → Int → List S34 → Option (Int × Int × Int × List S34)) (m : Nat) (op i h : Int) (out : List S34) (hi : At b i) (o1 : 1 ≤ op) (o2 : op ≤ 11) (hl : out.length + 2 * m < 1000)
    (hrec : 3 < op → ∀ i h out', At b i → out'.length + m < out.length + 2 * m + 1 → MadeOk b m out' (rec i h out')) :
    ∃ x new i' h', made.sw rec b nm3 op i h out = some (x, i', h', out ++ new) ∧ new.length ≤ 2 * m ∧ At b i' ∧ nodesB out.length new = true ∧ nodeB (out.length + new.length) x = true := by
  unfold made.sw
  by_cases c1 : op = 1
  · rw [if_pos c1]
    obtain ⟨q, i1, h1, e, hq, ha⟩ := l01PickInt_is b i h hi [0, 1, 2, 3, 9, 99] (by simp)
    rw [e, Option.bind_some]
    refine ⟨_, [], i1, h1, by rw [List.append_nil], by simp, ha, rfl, ?_⟩
    subst c1
    have hr : 0 ≤ q ∧ q ≤ 99 := by
      simp only [List.mem_cons, List.not_mem_nil, or_false] at hq
      omega
    have hd : decide (0 ≤ q ∧ q ≤ 99) = true := decide_eq_true hr
    unfold nodeB numOk nameOk
    simp [kidsOf, kidsIn, hd]
  rw [if_neg c1]
  by_cases c2 : op = 2
  · rw [if_pos c2, if_neg (by decide)]
    obtain ⟨q, i1, h1, e, hq, ha⟩ := l01Below_is b i h hi (nm3.length : Int) (by decide)
    rw [e, Option.bind_some, if_pos hq.1, if_pos hq.2]
    refine ⟨_, [], i1, h1, by rw [List.append_nil], by simp, ha, rfl, ?_⟩
    subst c2
    have hv : varNameB (rdOf ByteArray.empty nm3 q) = true := by
      refine nm3_ok ?_
      unfold rdOf
      rw [List.getD_eq_getElem?_getD, List.getElem?_eq_getElem (by omega), Option.getD_some]
      exact List.getElem_mem _
    unfold nodeB numOk nameOk
    simp [kidsOf, kidsIn, hv]
  rw [if_neg c2]
  by_cases c3 : op = 3
  · rw [if_pos c3]
    refine ⟨_, [], i, h, by rw [List.append_nil], by simp, hi, rfl, ?_⟩
    subst c3
    unfold nodeB numOk nameOk
    simp [kidsOf, kidsIn]
  rw [if_neg c3, l04Kids_is, Option.bind_some]
  have hkp : kidsOf op = 1 ∨ kidsOf op = 2 := by unfold kidsOf; rw [if_neg (by omega)]; split <;> omega
  obtain ⟨n, hn, hn1, hn2⟩ : ∃ n : Nat, kidsOf op = (n : Int) ∧ 1 ≤ n ∧ n ≤ 2 := by
    rcases hkp with e | e
    · exact ⟨1, e, by omega, by omega⟩
    · exact ⟨2, e, by omega, by omega⟩
  have hnm : n * m ≤ 2 * m := Nat.mul_le_mul_right m hn2
  obtain ⟨new, ks, i1, h1, e, hle, ha, hnb, hks, hc⟩ := madeKids_is b rec m (out.length + 2 * m + 1) (by omega) (hrec (by omega)) n n 4 0 [] i h out (by omega) (by omega) (by omega) (by simp) hi (by omega) (fun _ => trivial) (by simp) hn2
  rw [hn]
  rw [show ((0 : Nat) : Int) = 0 from rfl] at e
  rw [e, Option.bind_some]
  refine ⟨_, new, i1, h1, rfl, by omega, ha, hnb, ?_⟩
  rw [List.length_append] at hc
  rw [List.length_nil, Nat.zero_add] at hks
  unfold nodeB numOk nameOk
  have hkl : ((ks.length : Nat) : Int) = kidsOf op := by rw [hn, hks]
  have hki : kidsIn (out.length + new.length) ks = true := by
    unfold kidsIn
    rw [List.all_eq_true]
    intro c hcc
    have := hc c hcc
    unfold kidIn
    simp only [decide_eq_true_eq]
    omega
  simp [hkl, hki, o1, o2, c1, c2]
theorem made_is (b : List Int) (d : Nat) : ∀ (k : Nat) (i h : Int) (out : List S34), d < k → d ≤ 5 → At b i → out.length + 2 ^ (d + 1) < 1000 →
    MadeOk b (2 ^ (d + 1) - 1) out (spec_l04Made.f k b nm3 (d : Int) i h out) := by
  induction d with
  | zero =>
    intro k i h out hk _ hi hl
    obtain ⟨k, rfl⟩ : ∃ q, k = q + 1 := ⟨k - 1, by omega⟩
    rw [spec_l04Made.f]
    obtain ⟨op, i1, h1, e1, a1, o1, o2, o3⟩ := madeOp_is b _ i h hi
    rw [e1, Option.bind_some]
    obtain ⟨x, new, i2, h2, e2, hle, a2, hnb, hx⟩ := madeSw_is b (fun i h out => spec_l04Made.f k b nm3 (wrap64 (((0 : Nat) : Int) - 1)) i h out) 0 op i1 h1 out a1 o1 o2 (by omega) (fun h3 => absurd (o3 (by omega)) (by omega))
    rw [e2, Option.bind_some]
    have hn0 : new = [] := List.length_eq_zero_iff.1 (by omega)
    subst hn0
    rw [List.append_nil]
    exact madeFin_is b out x i2 h2 a2 (by omega) (by simpa using hx)
  | succ d ih =>
    intro k i h out hk hd hi hl
    obtain ⟨k, rfl⟩ : ∃ q, k = q + 1 := ⟨k - 1, by omega⟩
    rw [spec_l04Made.f]
    obtain ⟨op, i1, h1, e1, a1, o1, o2, o3⟩ := madeOp_is b _ i h hi
    rw [e1, Option.bind_some]
    have hpw : 2 ^ (d + 1 + 1) = 2 * 2 ^ (d + 1) := by rw [Nat.pow_succ, Nat.mul_comm]
    have hp1 : 1 ≤ 2 ^ (d + 1) := Nat.one_le_two_pow
    obtain ⟨x, new, i2, h2, e2, hle, a2, hnb, hx⟩ := madeSw_is b (fun i h out => spec_l04Made.f k b nm3 (wrap64 (((d + 1 : Nat) : Int) - 1)) i h out) (2 ^ (d + 1) - 1) op i1 h1 out a1 o1 o2 (by omega) (fun _ j g out' hj hl' => by
      show MadeOk b _ out' (spec_l04Made.f k b nm3 (wrap64 (((d + 1 : Nat) : Int) - 1)) j g out')
      rw [w64 (by omega) (by omega), show ((d + 1 : Nat) : Int) - 1 = (d : Int) from by omega]
      exact ih k j g out' (by omega) (by omega) hj (by omega))
    rw [e2, Option.bind_some]
    obtain ⟨new2, r, i3, h3, e3, hp, hl3, hr, a3, hnb3⟩ := madeFin_is b (out ++ new) x i2 h2 a2 (by rw [List.length_append]; omega) (by rw [List.length_append]; exact hx)
    refine ⟨new ++ new2, r, i3, h3, by rw [← List.append_assoc]; exact e3, by rw [List.length_append]; omega, by rw [List.length_append]; omega, by rw [← List.append_assoc]; exact hr, a3, ?_⟩
    rw [nodesB_append, hnb]
    rw [List.length_append] at hnb3
    rw [hnb3]
    rfl
/-- A drawn expression is right, of at most seven nodes. -/
theorem l04Expr_is (b : List Int) (i h : Int) (hi : At b i) : ∃ xs i' h', spec_l04Expr.f b i h [(⟨#[97]⟩ : ByteArray), (⟨#[98]⟩ : ByteArray), (⟨#[110]⟩ : ByteArray)] 2 = some (xs, i', h') ∧ exprOkB xs = true ∧ xs.length ≤ 7 ∧ At b i' := by
  unfold spec_l04Expr.f
  obtain ⟨new, r, i', h', e, hp, hl, hr, ha, hnb⟩ := made_is b 2 4 i h [] (by omega) (by omega) hi (by simp)
  show ∃ xs i' h', ((spec_l04Made.f 4 b nm3 ((2 : Nat) : Int) i h []).bind _ : Option _) = _ ∧ _
  rw [e, Option.bind_some]
  refine ⟨new, i', h', rfl, ?_, by simpa using hl, ha⟩
  unfold exprOkB
  rw [Bool.and_eq_true]
  refine ⟨hnb, decide_eq_true ?_⟩
  have : new.length ≤ 7 := by simpa using hl
  omega

/-! ### small7 -/
/-- Few nodes, and little in each. -/
def Small7 (xs : List S34) : Prop := xs.length ≤ 7 ∧ ∀ y ∈ xs, y.f2.size ≤ 4 ∧ y.f3.length ≤ 2
theorem okB_small {xs : List S34} (h : exprOkB xs = true) (hl : xs.length ≤ 7) : Small7 xs := by
  refine ⟨hl, fun y hy => ?_⟩
  obtain ⟨i, hi, rfl⟩ := List.getElem_of_mem hy
  have h1 : nodesB 0 xs = true := by
    unfold exprOkB at h
    rw [Bool.and_eq_true] at h
    exact h.1
  have h2 := nodesB_at xs 0 h1 i hi
  unfold nodeB at h2
  simp only [Bool.and_eq_true, decide_eq_true_eq] at h2
  obtain ⟨⟨⟨⟨a, b⟩, _⟩, hn⟩, d⟩ := h2
  refine ⟨?_, by unfold kidsOf at b; split at b <;> (try split at b) <;> omega⟩
  unfold nameOk at hn
  split at hn
  · unfold varNameB at hn
    rw [Bool.and_eq_true, decide_eq_true_eq] at hn
    omega
  · have e := of_decide_eq_true hn
    have : xs[i].f2.toList.length = 0 := by rw [e]; rfl
    rw [ByteArray.toList_eq, Array.length_toList] at this
    have h3 : xs[i].f2.size = 0 := this
    omega
theorem Small7.set {xs : List S34} (h : Small7 xs) (i : Nat) (y : S34) (hy : y.f2.size ≤ 4 ∧ y.f3.length ≤ 2) : Small7 (xs.set i y) := by
  refine ⟨by rw [List.length_set]; exact h.1, fun z hz => ?_⟩
  rcases List.mem_or_eq_of_mem_set hz with hz | rfl
  · exact h.2 z hz
  · exact hy
theorem Small7.rd {xs : List S34} (h : Small7 xs) (i : Int) : (rd_T34 xs i).f2.size ≤ 4 ∧ (rd_T34 xs i).f3.length ≤ 2 := by
  unfold rd_T34
  rw [List.getD_eq_getElem?_getD]
  by_cases c : i.toNat < xs.length
  · rw [List.getElem?_eq_getElem c, Option.getD_some]
    exact h.2 _ (List.getElem_mem c)
  · rw [List.getElem?_eq_none (by omega)]
    exact ⟨by decide, by decide⟩
theorem Small7.x {xs : List S34} (h : Small7 xs) : smallX xs := ⟨by have := h.1; omega, fun y hy => by have := h.2 y hy; omega⟩

/-! ### drawExprF -/
theorem drawExpr_ev (b : List Int) (hb : b.length ≤ 140737488351232) : ∃ xs, Ev (fun k => spec_DrawExpr.f k b) xs ∧ exprOkB xs = true ∧ xs.length ≤ 7 := by
  obtain ⟨h, e⟩ := l01New_is b hb 4001 (by omega)
  obtain ⟨xs, i', h', e2, ho, hl, _⟩ := l04Expr_is b 0 h ⟨hb, by omega, by omega⟩
  refine ⟨xs, Ev.of (k := 4001) (spec_DrawExpr.mono b) ?_, ho, hl⟩
  unfold spec_DrawExpr.f
  rw [e, Option.bind_some]
  show (spec_l04Expr.f b 0 h _ 2).bind _ = _
  rw [e2]
  rfl

/-! ### rdV -/
theorem rdI' (xs : List S87) (i : Nat) (h : i < xs.length) : rd_T87 xs (i : Int) = xs[i] := by simp [rd_T87, List.getD, h]

/-! ### isNumB -/
def numB (n : Int) : Bool := decide (-9999 ≤ n ∧ n ≤ 9999)

/-! ### envOk -/
def lessB (a b : ByteArray) : Bool := Op.bytesLess a.toList b.toList

/-- From a name on, the one ahead of it at hand. -/
def envRest : Option ByteArray → List S87 → Bool
  | _, [] => true
  | p, v :: l => varNameB v.f0 && numB v.f1 && (match p with | none => true | some a => lessB a v.f0) && envRest (some v.f0) l
def envOkB (xs : List S87) : Bool := envRest none xs && decide ((xs.length : Int) ≤ 6)
/-- The name ahead of place i. -/
def ahead (xs : List S87) (i : Nat) : Option ByteArray := if i = 0 then none else some (xs.getD (i - 1) z87).f0
theorem ahead_succ (xs : List S87) (i : Nat) (h : i < xs.length) : ahead xs (i + 1) = some xs[i].f0 := by simp [ahead, List.getD, h]

/-! ### envSet -/
def lesser (n : ByteArray) (xs : List S87) : List S87 := xs.filter fun v => lessB v.f0 n
def greater (n : ByteArray) (xs : List S87) : List S87 := xs.filter fun v => lessB n v.f0
theorem lesser_cons (n : ByteArray) (v : S87) (xs : List S87) : lesser n (v :: xs) = (if lessB v.f0 n = true then [v] else []) ++ lesser n xs := by
  unfold lesser
  rw [List.filter_cons]
  by_cases h : lessB v.f0 n = true
  · rw [if_pos h, if_pos h]; rfl
  · rw [if_neg h, if_neg h]; rfl
theorem greater_cons (n : ByteArray) (v : S87) (xs : List S87) : greater n (v :: xs) = (if lessB n v.f0 = true then [v] else []) ++ greater n xs := by
  unfold greater
  rw [List.filter_cons]
  by_cases h : lessB n v.f0 = true
  · rw [if_pos h, if_pos h]; rfl
  · rw [if_neg h, if_neg h]; rfl
theorem lesser_length (n : ByteArray) (xs : List S87) : (lesser n xs).length ≤ xs.length := List.length_filter_le _ _
theorem greater_length (n : ByteArray) (xs : List S87) : (greater n xs).length ≤ xs.length := List.length_filter_le _ _
/-- The list with a name set, whether it may be or not. -/
def putEnv (xs : List S87) (n : ByteArray) (m : Int) : List S87 := lesser n xs ++ [⟨n, m⟩] ++ greater n xs
def setEnv (xs : List S87) (n : ByteArray) (m : Int) : List S87 × Bool := if envOkB (putEnv xs n m) = true then (putEnv xs n m, true) else (xs, false)
theorem putEnv_mem {B : Nat} {xs : List S87} {n : ByteArray} {m : Int} (hx : ∀ y ∈ xs, y.f0.size ≤ B) (hn : n.size ≤ B) : ∀ y ∈ putEnv xs n m, y.f0.size ≤ B := by
  intro y hy
  unfold putEnv at hy
  simp only [List.mem_append, List.mem_singleton] at hy
  rcases hy with (hy | rfl) | hy
  · exact hx y (List.mem_filter.1 hy).1
  · exact hn
  · exact hx y (List.mem_filter.1 hy).1
theorem putEnv_length (xs : List S87) (n : ByteArray) (m : Int) : (putEnv xs n m).length ≤ 2 * xs.length + 1 := by
  unfold putEnv
  have := lesser_length n xs
  have := greater_length n xs
  simp only [List.length_append, List.length_singleton]
  omega

/-! ### l01In -/
theorem l01In_is (a b c : Int) : spec_l01In.f a b c = some (decide (b ≤ a ∧ a ≤ c)) := by
  unfold spec_l01In.f
  by_cases h : a ≥ b
  · rw [if_pos h]; simp [show b ≤ a from h]
  · rw [if_neg h]; simp [show ¬ b ≤ a from h]

/-! ### specVarName -/
theorem specVarName_l0 (s : ByteArray) (hs : s.size ≤ 140737488351232) (d : Nat) : ∀ (k i : Nat), s.size - i ≤ d → d < k →
    spec_VarName.l0 k s (i : Int) = some (((bs s).drop i).all small && decide (1 ≤ (s.size : Int) ∧ (s.size : Int) ≤ 4)) := by
  induction d with
  | zero =>
    intro k i hd hk
    obtain ⟨k, rfl⟩ : ∃ m, k = m + 1 := ⟨k - 1, by omega⟩
    simp only [spec_VarName.l0]
    rw [if_neg (by omega), l01In_is, bs_drop_nil s i (by omega)]; simp
  | succ d ih =>
    intro k i hd hk
    obtain ⟨k, rfl⟩ : ∃ m, k = m + 1 := ⟨k - 1, by omega⟩
    by_cases hi : i < s.size
    · have e := ih k (i + 1) (by omega) (by omega)
      simp only [spec_VarName.l0]
      rw [if_pos (by omega), if_pos (by omega), w64_succ hi hs, e, bs_drop s i hi]
      simp only [List.all_cons]
      by_cases h1 : bt s i < 97
      · rw [if_pos h1, show small (bt s i) = false from by simp [small]; omega]; simp
      · by_cases h2 : bt s i > 122
        · rw [if_neg h1, if_pos h2, show small (bt s i) = false from by simp [small]; omega]; simp
        · rw [if_neg h1, if_neg h2, show small (bt s i) = true from by simp [small]; omega]; simp
    · simp only [spec_VarName.l0]
      rw [if_neg (by omega), l01In_is, bs_drop_nil s i (by omega)]; simp
theorem specVarName_is (s : ByteArray) (hs : s.size ≤ 140737488351232) (k : Nat) (hk : s.size < k) : spec_VarName.f k s = some (varNameB s) := by
  unfold spec_VarName.f
  exact specVarName_l0 s hs s.size k 0 (by omega) hk

/-! ### specEnvOk -/
theorem specEnvOk_l0 (B : Nat) (hB : B ≤ 140737488351232) (xs : List S87) (hx : ∀ y ∈ xs, y.f0.size ≤ B) (hl : xs.length ≤ 9223372036854775807) (d : Nat) : ∀ (k i : Nat), xs.length - i ≤ d → d + B < k →
    spec_EnvOk.l0 k xs (i : Int) = some (envRest (ahead xs i) (xs.drop i) && decide ((xs.length : Int) ≤ 6)) := by
  induction d with
  | zero =>
    intro k i hd hk
    obtain ⟨k, rfl⟩ : ∃ m, k = m + 1 := ⟨k - 1, by omega⟩
    rw [spec_EnvOk.l0, if_neg (by omega), List.drop_eq_nil_of_le (by omega)]; simp [envRest]
  | succ d ih =>
    intro k i hd hk
    obtain ⟨k, rfl⟩ : ∃ m, k = m + 1 := ⟨k - 1, by omega⟩
    by_cases hi : i < xs.length
    · have hs : xs[i].f0.size ≤ B := hx _ (List.getElem_mem hi)
      have e := ih k (i + 1) (by omega) (by omega)
      rw [ahead_succ xs i hi] at e
      rw [spec_EnvOk.l0, if_pos (by omega), if_pos (by omega), rdI' xs i hi, specVarName_is _ (by omega) k (by omega), Option.bind_some, w64_len hi hl, e, drop_get xs i hi]
      simp only [envRest]
      by_cases h1 : varNameB xs[i].f0 = true
      · rw [if_pos h1, l01In_is, Option.bind_some, h1, show decide (-9999 ≤ xs[i].f1 ∧ xs[i].f1 ≤ 9999) = numB xs[i].f1 from rfl]
        by_cases h2 : numB xs[i].f1 = true
        · rw [if_pos h2, h2]
          by_cases h3 : (i : Int) > 0
          · have e2 : wrap64 ((i : Int) - 1) = ((i - 1 : Nat) : Int) := by rw [w64 (by omega) (by omega)]; omega
            rw [if_pos h3, e2, if_pos (by omega), if_pos (by omega), rdI' xs (i - 1) (by omega)]
            have ha : ahead xs i = some xs[i - 1].f0 := by
              unfold ahead
              rw [if_neg (by omega)]
              simp [List.getD, List.getElem?_eq_getElem (show i - 1 < xs.length by omega)]
            rw [ha, show Op.bytesLess xs[i - 1].f0.toList xs[i].f0.toList = lessB xs[i - 1].f0 xs[i].f0 from rfl]
            by_cases h4 : lessB xs[i - 1].f0 xs[i].f0 = true
            · rw [if_pos h4]; simp [h4]
            · rw [if_neg h4]; simp [h4]
          · rw [if_neg h3]
            have ha : ahead xs i = none := by unfold ahead; rw [if_pos (by omega)]
            rw [ha]; simp
        · rw [if_neg h2]; simp [h2]
      · rw [if_neg h1]; simp [h1]
    · rw [spec_EnvOk.l0, if_neg (by omega), List.drop_eq_nil_of_le (by omega)]; simp [envRest]
theorem specEnvOk_is (B : Nat) (hB : B ≤ 140737488351232) (xs : List S87) (hx : ∀ y ∈ xs, y.f0.size ≤ B) (hl : xs.length ≤ 9223372036854775807) (k : Nat) (hk : xs.length + B < k) : spec_EnvOk.f k xs = some (envOkB xs) := by
  unfold spec_EnvOk.f
  exact specEnvOk_l0 B hB xs hx hl xs.length k 0 (by omega) hk

/-! ### specEnvSet -/
/-- What EnvSet does behind its loops. -/
def tailSpec (k : Nat) (xs : List S87) (out : List S87) : Option (List S87 × Bool) :=
  ((spec_EnvOk.f k out).bind fun t204 => (if t204 = true then (some (out, true)) else ((some (([] : List (S87)) : List (S87))).bind fun y205 => (if y205.length + xs.length < 5864062014805 then (some ((y205 ++ xs), false)) else (none)))))
theorem specEnvSet_l1 (xs : List S87) (n : ByteArray) (hl : xs.length ≤ 1048576) (r : Nat) : ∀ (k i : Nat) (out : List S87), xs.length - i = r → out.length ≤ 1048577 + i →
    spec_EnvSet.l1 (k + r + 1) xs n out (i : Int) = tailSpec k xs (out ++ greater n (xs.drop i)) := by
  induction r with
  | zero =>
    intro k i out hr h1
    rw [show k + 0 + 1 = k + 1 from rfl, spec_EnvSet.l1, if_neg (by omega), List.drop_eq_nil_of_le (by omega), show greater n [] = [] from rfl, List.append_nil]
    rfl
  | succ r ih =>
    intro k i out hr h1
    have hi2 : i < xs.length := by omega
    rw [show k + (r + 1) + 1 = (k + r + 1) + 1 from by omega, spec_EnvSet.l1, if_pos (by omega), if_pos (by omega), rdI' xs i hi2, drop_get xs i hi2, greater_cons, w64_len hi2 (by omega)]
    rw [show Op.bytesLess n.toList xs[i].f0.toList = lessB n xs[i].f0 from rfl]
    by_cases c1 : lessB n xs[i].f0 = true
    · rw [if_pos c1, if_pos c1, if_pos (by omega), ih k (i + 1) _ (by omega) (by simp; omega)]
      simp only [List.append_assoc]
    · rw [if_neg c1, if_neg c1, ih k (i + 1) _ (by omega) (by omega), List.nil_append]
theorem specEnvSet_l0 (xs : List S87) (n : ByteArray) (m : Int) (hl : xs.length ≤ 1048576) (r : Nat) : ∀ (k i : Nat) (out : List S87), xs.length - i = r → out.length ≤ i → i ≤ xs.length →
    spec_EnvSet.l0 (k + r + 1) xs n m out (i : Int) = spec_EnvSet.l1 k xs n (out ++ lesser n (xs.drop i) ++ [⟨n, m⟩]) 0 := by
  induction r with
  | zero =>
    intro k i out hr h1 h2
    rw [show k + 0 + 1 = k + 1 from rfl, spec_EnvSet.l0, if_neg (by omega), if_pos (by omega), List.drop_eq_nil_of_le (by omega), show lesser n [] = [] from rfl, List.append_nil]
  | succ r ih =>
    intro k i out hr h1 h2
    have hi2 : i < xs.length := by omega
    rw [show k + (r + 1) + 1 = (k + r + 1) + 1 from by omega, spec_EnvSet.l0, if_pos (by omega), if_pos (by omega), rdI' xs i hi2, drop_get xs i hi2, lesser_cons, w64_len hi2 (by omega)]
    rw [show Op.bytesLess xs[i].f0.toList n.toList = lessB xs[i].f0 n from rfl]
    by_cases c1 : lessB xs[i].f0 n = true
    · rw [if_pos c1, if_pos c1, if_pos (by omega), ih k (i + 1) _ (by omega) (by simp; omega) (by omega)]
      simp only [List.append_assoc]
    · rw [if_neg c1, if_neg c1, ih k (i + 1) _ (by omega) (by omega) (by omega), List.nil_append]
theorem specEnvSet_is (xs : List S87) (n : ByteArray) (m : Int) (hx : ∀ y ∈ xs, y.f0.size ≤ 1048576) (hn : n.size ≤ 1048576) (hl : xs.length ≤ 1048576) (k : Nat) (hk : 4000000 + 2 * xs.length < k) :
    spec_EnvSet.f k xs n m = some (setEnv xs n m) := by
  obtain ⟨k, rfl⟩ : ∃ q, k = q + xs.length + 1 + xs.length + 1 := ⟨k - 2 * xs.length - 2, by omega⟩
  unfold spec_EnvSet.f
  have h1 := lesser_length n xs
  have h3 := putEnv_length xs n m
  rw [show (0 : Int) = ((0 : Nat) : Int) from rfl, specEnvSet_l0 xs n m hl xs.length _ 0 [] (by omega) (by simp) (by omega), List.drop_zero, List.nil_append,
    show (0 : Int) = ((0 : Nat) : Int) from rfl, specEnvSet_l1 xs n hl xs.length k 0 _ (by omega) (by simp only [List.length_append, List.length_singleton]; omega), List.drop_zero]
  unfold tailSpec
  rw [show lesser n xs ++ [(⟨n, m⟩ : S87)] ++ greater n xs = putEnv xs n m from rfl,
    specEnvOk_is 1048576 (by omega) _ (putEnv_mem hx hn) (by omega) k (by omega), Option.bind_some]
  unfold setEnv
  by_cases c : envOkB (putEnv xs n m) = true
  · rw [if_pos c, if_pos c]
  · rw [if_neg c, if_neg c, Option.bind_some, if_pos (by simp only [List.length_nil]; omega), List.nil_append]

/-! ### lessB -/
theorem bl_cons (a b : UInt8) (x y : List UInt8) : Op.bytesLess (a :: x) (b :: y) = true ↔ a.toNat < b.toNat ∨ (a = b ∧ Op.bytesLess x y = true) := by
  simp [Op.bytesLess, UInt8.lt_iff_toNat_lt]
theorem bl_nil (x : List UInt8) : Op.bytesLess x [] = false := by cases x <;> rfl
theorem bl_irrefl (x : List UInt8) : Op.bytesLess x x = false := by
  induction x with
  | nil => rfl
  | cons a x ih =>
    by_cases h : Op.bytesLess (a :: x) (a :: x) = true
    · rw [bl_cons] at h
      rcases h with h | h
      · omega
      · rw [ih] at h; exact absurd h.2 (by simp)
    · simpa using h
theorem bl_trans : ∀ x y z : List UInt8, Op.bytesLess x y = true → Op.bytesLess y z = true → Op.bytesLess x z = true
  | x, y, [], _, h => by rw [bl_nil] at h; cases h
  | x, [], c :: z, h, _ => by rw [bl_nil] at h; cases h
  | [], b :: y, c :: z, _, _ => rfl
  | a :: x, b :: y, c :: z, h1, h2 => by
    rw [bl_cons] at h1 h2 ⊢
    rcases h1 with h1 | ⟨rfl, h1⟩
    · rcases h2 with h2 | ⟨rfl, h2⟩
      · left; omega
      · left; exact h1
    · rcases h2 with h2 | ⟨rfl, h2⟩
      · left; exact h2
      · right; exact ⟨rfl, bl_trans x y z h1 h2⟩
theorem bl_total : ∀ x y : List UInt8, Op.bytesLess x y = false → Op.bytesLess y x = false → x = y
  | [], [], _, _ => rfl
  | [], b :: y, h, _ => by cases h
  | a :: x, [], _, h => by cases h
  | a :: x, b :: y, h1, h2 => by
    have n1 : ¬ Op.bytesLess (a :: x) (b :: y) = true := by rw [h1]; simp
    have n2 : ¬ Op.bytesLess (b :: y) (a :: x) = true := by rw [h2]; simp
    rw [bl_cons] at n1 n2
    have e : a = b := UInt8.toNat_inj.1 (by omega)
    subst e
    have m1 : Op.bytesLess x y = false := by by_cases c : Op.bytesLess x y = true; exact absurd (Or.inr ⟨rfl, c⟩) n1; simpa using c
    have m2 : Op.bytesLess y x = false := by by_cases c : Op.bytesLess y x = true; exact absurd (Or.inr ⟨rfl, c⟩) n2; simpa using c
    rw [bl_total x y m1 m2]
theorem lessB_irrefl (a : ByteArray) : lessB a a = false := bl_irrefl _
theorem lessB_trans {a b c : ByteArray} (h : lessB a b = true) (h2 : lessB b c = true) : lessB a c = true := bl_trans _ _ _ h h2
theorem lessB_asymm {a b : ByteArray} (h : lessB a b = true) : lessB b a = false := by
  by_cases c : lessB b a = true
  · have := lessB_trans h c
    rw [lessB_irrefl] at this
    cases this
  · simpa using c
theorem lessB_total {a b : ByteArray} (h : lessB a b = false) (h2 : lessB b a = false) : a = b := toList_eq.1 (bl_total _ _ h h2)
def okV (v : S87) : Bool := varNameB v.f0 && numB v.f1
/-- A list of names that may be. -/
structure Good (xs : List S87) : Prop where
  all : ∀ v ∈ xs, okV v = true
  up : xs.Pairwise fun v w => lessB v.f0 w.f0 = true
theorem envRest_iff (xs : List S87) : ∀ p : Option ByteArray, envRest p xs = true ↔ ((∀ v ∈ xs, okV v = true) ∧ (∀ a, p = some a → ∀ v ∈ xs, lessB a v.f0 = true) ∧ xs.Pairwise fun v w => lessB v.f0 w.f0 = true) := by
  induction xs with
  | nil => intro p; simp [envRest]
  | cons v l ih =>
    intro p
    simp only [envRest, Bool.and_eq_true, ih (some v.f0)]
    constructor
    · rintro ⟨⟨⟨h1, h2⟩, h3⟩, h4, h5, h6⟩
      have h5' := h5 v.f0 rfl
      refine ⟨?_, ?_, ?_⟩
      · intro w hw
        rcases List.mem_cons.1 hw with rfl | hw
        · simp [okV, h1, h2]
        · exact h4 w hw
      · intro a ha w hw
        subst ha
        rcases List.mem_cons.1 hw with rfl | hw
        · exact h3
        · exact lessB_trans h3 (h5' w hw)
      · exact List.pairwise_cons.2 ⟨h5', h6⟩
    · rintro ⟨h1, h2, h3⟩
      have hv := h1 v List.mem_cons_self
      simp only [okV, Bool.and_eq_true] at hv
      obtain ⟨p1, p2⟩ := List.pairwise_cons.1 h3
      refine ⟨⟨hv, ?_⟩, fun w hw => h1 w (List.mem_cons_of_mem _ hw), ?_, p2⟩
      · cases p with
        | none => rfl
        | some a => exact h2 a rfl v List.mem_cons_self
      · intro a ha w hw
        cases ha
        exact p1 w hw
theorem envOkB_iff (xs : List S87) : envOkB xs = true ↔ Good xs ∧ xs.length ≤ 6 := by
  unfold envOkB
  rw [Bool.and_eq_true, envRest_iff, decide_eq_true_eq]
  constructor
  · rintro ⟨⟨h1, _, h3⟩, h4⟩; exact ⟨⟨h1, h3⟩, by omega⟩
  · rintro ⟨h, h4⟩; exact ⟨⟨h.all, by simp, h.up⟩, by omega⟩
theorem putEnv_good {xs : List S87} {n : ByteArray} {m : Int} (h : Good xs) (hn : varNameB n = true) (hm : numB m = true) : Good (putEnv xs n m) := by
  refine ⟨?_, ?_⟩
  · intro v hv
    unfold putEnv at hv
    simp only [List.mem_append, List.mem_singleton] at hv
    rcases hv with (hv | rfl) | hv
    · exact h.all v (List.mem_filter.1 hv).1
    · simp [okV, hn, hm]
    · exact h.all v (List.mem_filter.1 hv).1
  · unfold putEnv
    rw [List.pairwise_append, List.pairwise_append]
    refine ⟨⟨h.up.sublist List.filter_sublist, List.pairwise_singleton _ _, ?_⟩, h.up.sublist List.filter_sublist, ?_⟩
    · intro v hv w hw
      rw [List.mem_singleton] at hw
      subst hw
      exact (List.mem_filter.1 hv).2
    · intro v hv w hw
      have hw2 := (List.mem_filter.1 hw).2
      rw [List.mem_append, List.mem_singleton] at hv
      rcases hv with hv | rfl
      · exact lessB_trans (List.mem_filter.1 hv).2 hw2
      · exact hw2
theorem putEnv_length1 (xs : List S87) (n : ByteArray) (m : Int) : (putEnv xs n m).length ≤ xs.length + 1 := by
  have h : (lesser n xs).length + (greater n xs).length ≤ xs.length := by
    induction xs with
    | nil => simp [lesser, greater]
    | cons v l ih =>
      rw [lesser_cons, greater_cons, List.length_append, List.length_append, List.length_cons]
      by_cases c : lessB v.f0 n = true
      · rw [if_pos c, if_neg (by rw [lessB_asymm c]; simp), List.length_singleton, List.length_nil]; omega
      · by_cases c2 : lessB n v.f0 = true
        · rw [if_neg c, if_pos c2, List.length_singleton, List.length_nil]; omega
        · rw [if_neg c, if_neg c2, List.length_nil]; omega
  unfold putEnv
  simp only [List.length_append, List.length_singleton]
  omega
theorem putEnv_names {xs : List S87} {n : ByteArray} {m : Int} {v : S87} (h : v ∈ putEnv xs n m) : v ∈ xs ∨ v = ⟨n, m⟩ := by
  unfold putEnv at h
  simp only [List.mem_append, List.mem_singleton] at h
  rcases h with (h | h) | h
  · exact .inl (List.mem_filter.1 h).1
  · exact .inr h
  · exact .inl (List.mem_filter.1 h).1
theorem putEnv_self (xs : List S87) (n : ByteArray) (m : Int) : (⟨n, m⟩ : S87) ∈ putEnv xs n m := by simp [putEnv]
theorem putEnv_other {xs : List S87} {n : ByteArray} {m : Int} {v : S87} (h : v ∈ xs) (hn : v.f0 ≠ n) : v ∈ putEnv xs n m := by
  unfold putEnv
  simp only [List.mem_append, List.mem_singleton]
  by_cases c : lessB v.f0 n = true
  · exact .inl (.inl (List.mem_filter.2 ⟨h, c⟩))
  · by_cases c2 : lessB n v.f0 = true
    · exact .inr (List.mem_filter.2 ⟨h, c2⟩)
    · exact absurd (lessB_total (by simpa using c) (by simpa using c2)) hn

/-! ### drawEnv -/
/-- The names that are drawn. -/
def names5 : List ByteArray := [(⟨#[97]⟩ : ByteArray), (⟨#[98]⟩ : ByteArray), (⟨#[110]⟩ : ByteArray), (⟨#[120]⟩ : ByteArray), (⟨#[108, 111, 110, 103]⟩ : ByteArray)]
theorem l03Name_is (b : List Int) (i h : Int) (hi : At b i) : ∃ r i' h', spec_l03Name.f b i h = some (r, i', h') ∧ r ∈ names5 ∧ At b i' := by
  unfold spec_l03Name.f
  obtain ⟨r, i', h', e, hr, ha⟩ := l01Pick_is b i h hi names5 (by simp [names5])
  rw [show ([(⟨#[97]⟩ : ByteArray), (⟨#[98]⟩ : ByteArray), (⟨#[110]⟩ : ByteArray), (⟨#[120]⟩ : ByteArray), (⟨#[108, 111, 110, 103]⟩ : ByteArray)] : List ByteArray) = names5 from rfl, e, Option.bind_some]
  exact ⟨r, i', h', rfl, hr, ha⟩
theorem names5_size {n : ByteArray} (h : n ∈ names5) : n.size ≤ 4 := by
  simp only [names5, List.mem_cons, List.not_mem_nil, or_false] at h
  rcases h with rfl | rfl | rfl | rfl | rfl <;> decide
theorem names5_ok {n : ByteArray} (h : n ∈ names5) : varNameB n = true := by
  simp only [names5, List.mem_cons, List.not_mem_nil, or_false] at h
  rcases h with rfl | rfl | rfl | rfl | rfl <;> decide
/-- What is drawn of names: a list that may be, of the five, at most so long. -/
structure Drawn (c : Nat) (xs : List S87) : Prop where
  good : Good xs
  names : ∀ v ∈ xs, v.f0 ∈ names5
  len : xs.length ≤ c
theorem setEnv_drawn {c : Nat} {xs : List S87} {n : ByteArray} {m : Int} (h : Drawn c xs) (hn : n ∈ names5) : Drawn (c + 1) (setEnv xs n m).1 := by
  unfold setEnv
  by_cases d : envOkB (putEnv xs n m) = true
  · rw [if_pos d]
    refine ⟨((envOkB_iff _).1 d).1, ?_, ?_⟩
    · intro v hv
      rcases putEnv_names hv with h2 | rfl
      · exact h.names v h2
      · exact hn
    · have := putEnv_length1 xs n m
      have := h.len
      show (putEnv xs n m).length ≤ _
      omega
  · rw [if_neg d]
    exact ⟨h.good, h.names, by have := h.len; show xs.length ≤ _; omega⟩
theorem l03Env_l0 (b : List Int) (d : Nat) : ∀ (k i : Nat) (xs : List S87) (j h : Int), 5 - i ≤ d → d + 8000000 < k → i ≤ 4 → Drawn i xs → At b j →
    ∃ q j' h', spec_l03Env.l0 k xs (i : Int) b j h = some (q, j', h') ∧ Drawn 4 q ∧ At b j' := by
  induction d with
  | zero => intro k i xs j h hd hk hi; omega
  | succ d ih =>
    intro k i xs j h hd hk hi hx ha
    obtain ⟨k, rfl⟩ : ∃ m, k = m + 1 := ⟨k - 1, by omega⟩
    obtain ⟨r, j', h', e, hr, ha'⟩ := l01Below_is b j h ha 5 (by omega)
    rw [spec_l03Env.l0, e, Option.bind_some]
    by_cases c : (i : Int) < r
    · obtain ⟨n, j2, h2, e2, hn, ha2⟩ := l03Name_is b j' h' ha'
      obtain ⟨m, j3, h3, e3, hm, ha3⟩ := l01PickInt_is b j2 h2 ha2 [0, 1, 2, 7, (-3), 50, 9999] (by simp)
      have hl := hx.len
      rw [if_pos c]
      show ∃ q j'' h'', ((spec_l03Name.f b j' h').bind _ : Option _) = _ ∧ _
      rw [e2, Option.bind_some]
      show ∃ q j'' h'', ((spec_l01PickInt.f b j2 h2 [0, 1, 2, 7, (-3), 50, 9999]).bind _ : Option _) = _ ∧ _
      rw [e3, Option.bind_some]
      show ∃ q j'' h'', ((spec_EnvSet.f k xs n m).bind _ : Option _) = _ ∧ _
      rw [specEnvSet_is xs n m (fun y hy => by have := names5_size (hx.names y hy); omega) (by have := names5_size hn; omega) (by omega) k (by omega), Option.bind_some, w64_len (n := 5) (by omega) (by omega)]
      exact ih k (i + 1) _ j3 h3 (by omega) (by omega) (by omega) (setEnv_drawn hx hn) ha3
    · rw [if_neg c]
      exact ⟨_, _, _, rfl, ⟨hx.good, hx.names, by have := hx.len; omega⟩, ha'⟩
theorem l03Env_is (b : List Int) (j h : Int) (ha : At b j) (k : Nat) (hk : 8000010 < k) : ∃ q j' h', spec_l03Env.f k b j h = some (q, j', h') ∧ Drawn 4 q ∧ At b j' := by
  unfold spec_l03Env.f
  exact l03Env_l0 b 5 k 0 [] j h (by omega) (by omega) (by omega) ⟨⟨by simp, List.Pairwise.nil⟩, by simp, by simp⟩ ha

/-! ### drawEnvF -/
theorem drawEnv_is (b : List Int) (hb : b.length ≤ 140737488351232) (k : Nat) (hk : 8000010 < k) : ∃ q, spec_DrawEnv.f k b = some q ∧ Drawn 4 q := by
  unfold spec_DrawEnv.f
  obtain ⟨h, e⟩ := l01New_is b hb k (by omega)
  obtain ⟨q, j', h', e2, hq, _⟩ := l03Env_is b 0 h ⟨hb, by omega, by omega⟩ k hk
  rw [e, Option.bind_some]
  refine ⟨q, ?_, hq⟩
  show (spec_l03Env.f k b 0 h).bind _ = _
  rw [e2, Option.bind_some]

/-! ### drawPlaces -/
theorem drawPlaces_l0 (b : List Int) (d : Nat) : ∀ (k i : Nat) (p : List Int) (j h : Int), 12 - i ≤ d → d < k → i ≤ 12 → p.length = i → (∀ x ∈ p, 0 ≤ x ∧ x < 10000) → At b j →
    ∃ q, spec_DrawPlaces.l0 k p (i : Int) b j h = some q ∧ q.length = 12 ∧ ∀ x ∈ q, 0 ≤ x ∧ x < 10000 := by
  induction d with
  | zero =>
    intro k i p j h hd hk hi hl hp ha
    obtain ⟨k, rfl⟩ : ∃ m, k = m + 1 := ⟨k - 1, by omega⟩
    rw [spec_DrawPlaces.l0, if_neg (by omega)]
    exact ⟨_, rfl, by omega, hp⟩
  | succ d ih =>
    intro k i p j h hd hk hi hl hp ha
    obtain ⟨k, rfl⟩ : ∃ m, k = m + 1 := ⟨k - 1, by omega⟩
    by_cases c : (i : Int) < 12
    · obtain ⟨r, j', h', e, hr, ha'⟩ := l01Below_is b j h ha 10000 (by omega)
      rw [spec_DrawPlaces.l0, if_pos c, e, Option.bind_some, if_pos (by omega), w64_len (n := 12) (by omega) (by omega)]
      refine ih k (i + 1) _ _ _ (by omega) (by omega) (by omega) (by simp; omega) ?_ ha'
      intro x hx
      rw [List.mem_append, List.mem_singleton] at hx
      rcases hx with hx | rfl
      · exact hp x hx
      · exact hr
    · rw [spec_DrawPlaces.l0, if_neg c]
      exact ⟨_, rfl, by omega, hp⟩
theorem drawPlaces_is (b : List Int) (hb : b.length ≤ 140737488351232) (k : Nat) (hk : 4001 ≤ k) : ∃ q, spec_DrawPlaces.f k b = some q ∧ q.length = 12 ∧ ∀ x ∈ q, 0 ≤ x ∧ x < 10000 := by
  unfold spec_DrawPlaces.f
  obtain ⟨h, e⟩ := l01New_is b hb k hk
  have ha : At b 0 := ⟨hb, by omega, by omega⟩
  obtain ⟨r, j', h', e2, hr, ha'⟩ := l01Byte_is b 0 h ha
  rw [e, Option.bind_some]
  obtain ⟨q, hq⟩ := drawPlaces_l0 b 12 k 0 [] j' h' (by omega) (by omega) (by omega) rfl (by simp) ha'
  refine ⟨q, ?_, hq.2⟩
  show (spec_l01Byte.f b 0 h).bind _ = _
  rw [e2, Option.bind_some]
  exact hq.1

/-! ### envGet -/
/-- Its number, and true; false without one. -/
def envGetL (s : ByteArray) : List S87 → Int × Bool
  | [] => (0, false)
  | v :: l => if v.f0 = s then (v.f1, true) else envGetL s l

/-! ### evalR -/
def rdB (m : List Bool) (i : Int) : Bool := rdOf false m i
/-- What is below a node that is marked is marked. -/
def markKids (m : List Bool) (ks : List Int) : List Bool := ks.foldl (fun m c => m.set c.toNat true) m
theorem markKids_length (ks : List Int) : ∀ m : List Bool, (markKids m ks).length = m.length := by
  induction ks with
  | nil => intro m; rfl
  | cons c ks ih => intro m; show (markKids (m.set c.toNat true) ks).length = _; rw [ih, List.length_set]
def markStep (xs : List S34) (m : List Bool) (i : Nat) : List Bool := if rdB m (i : Int) then markKids m (xs.getD i z34).f3 else m
theorem markStep_length (xs : List S34) (m : List Bool) (i : Nat) : (markStep xs m i).length = m.length := by
  unfold markStep; split
  · exact markKids_length _ _
  · rfl
/-- The marks, once the nodes from n - 1 down to 0 have been looked at. -/
def marksGo (xs : List S34) : Nat → List Bool → List Bool
  | 0, m => m
  | n + 1, m => marksGo xs n (markStep xs m n)
theorem marksGo_length (xs : List S34) (n : Nat) : ∀ m : List Bool, (marksGo xs n m).length = m.length := by
  induction n with
  | zero => intro m; rfl
  | succ n ih => intro m; show (marksGo xs n (markStep xs m n)).length = _; rw [ih, markStep_length]
/-- The nodes that are the whole, or below it. -/
def marksR (xs : List S34) : List Bool := marksGo xs xs.length ((List.replicate xs.length false).set (xs.length - 1) true)
theorem marksR_length (xs : List S34) : (marksR xs).length = xs.length := by unfold marksR; rw [marksGo_length]; simp
def flagR (b : Bool) : Int := if b then 1 else 0
/-- What comes of two numbers. -/
def reckonR (op a b : Int) : Int × Bool :=
  if op = 4 then (wrap64 (a + b), true) else if op = 5 then (wrap64 (a - b), true) else if op = 6 then (wrap64 (a * b), true)
  else if op = 8 then (flagR (decide (a < b)), true) else if op = 9 then (flagR (a == b), true) else if op = 10 then (flagR (a != 0 && b != 0), true)
  else if op = 11 then (flagR (a == 0), true) else if b = 0 then (0, false) else (wrap64 (Int.tdiv a b), true)
/-- The number of a node by those of the nodes ahead. -/
def nodeVal (env : List S87) (here : Int) (nums : List Int) (y : S34) : Int × Bool :=
  if y.f0 = 1 then (y.f1, true) else if y.f0 = 2 then envGetL y.f2 env else if y.f0 = 3 then (here, true)
  else reckonR y.f0 (rd nums (rd y.f3 0)) (rd nums (rd y.f3 ((y.f3.length : Int) - 1)))
def evalGo (env : List S87) (here : Int) (m : List Bool) : Nat → List Int → List S34 → Int × Bool
  | _, nums, [] => (rd nums ((nums.length : Int) - 1), true)
  | i, nums, y :: l => if rdB m (i : Int) then (if (nodeVal env here nums y).2 && numB (nodeVal env here nums y).1 then evalGo env here m (i + 1) (nums.set i (nodeVal env here nums y).1) l else (0, false)) else evalGo env here m (i + 1) nums l
/-- What an expression is. -/
def evalR (xs : List S34) (env : List S87) (here : Int) : Int × Bool :=
  if exprOkB xs then evalGo env here (marksR xs) 0 (List.replicate xs.length 0) xs else (0, false)
theorem rdB_at (m : List Bool) (i : Nat) (h : i < m.length) : rdB m (i : Int) = m[i] := by simp [rdB, rdOf, List.getD, h]
theorem rdB_set_ne (m : List Bool) (i j : Nat) (v : Bool) (h : i ≠ j) : rdB (m.set j v) (i : Int) = rdB m (i : Int) := by
  simp [rdB, rdOf, List.getD, List.getElem?_set_ne (Ne.symm h)]

/-! ### evalVals -/
/-! an expression is what its parts are: each node's own number, and the whole's is the last one's -/
def fitR (n : Int) : Option Int := if numB n = true then some n else none
def pairO : Option Int → Int × Bool
  | some v => (v, true)
  | none => (0, false)
def atO (acc : List (Option Int)) (i : Int) : Option Int := acc.getD i.toNat none
/-- A node's number by the numbers of the nodes ahead (none: it has none). -/
def nvR (env : List S87) (here : Int) (acc : List (Option Int)) (y : S34) : Option Int :=
  if y.f0 = 1 then fitR y.f1 else if y.f0 = 2 then (if (envGetL y.f2 env).2 = true then fitR (envGetL y.f2 env).1 else none) else if y.f0 = 3 then fitR here
  else (atO acc (rd y.f3 0)).bind fun a => (atO acc (rd y.f3 ((y.f3.length : Int) - 1))).bind fun b => if (reckonR y.f0 a b).2 = true then fitR (reckonR y.f0 a b).1 else none
def valsGo (env : List S87) (here : Int) : List (Option Int) → List S34 → List (Option Int)
  | acc, [] => acc
  | acc, y :: l => valsGo env here (acc ++ [nvR env here acc y]) l
def valsR (env : List S87) (here : Int) (xs : List S34) : List (Option Int) := valsGo env here [] xs
section
variable (env : List S87) (here : Int)
theorem valsGo_append (l l' : List S34) : ∀ acc, valsGo env here acc (l ++ l') = valsGo env here (valsGo env here acc l) l' := by
  induction l with
  | nil => intro acc; rfl
  | cons y l ih => intro acc; exact ih _
theorem valsGo_keep (l : List S34) : ∀ acc : List (Option Int), (valsGo env here acc l).length = acc.length + l.length ∧ ∀ j, j < acc.length → (valsGo env here acc l)[j]? = acc[j]? := by
  induction l with
  | nil => intro acc; exact ⟨rfl, fun j _ => rfl⟩
  | cons y l ih =>
    intro acc
    obtain ⟨h1, h2⟩ := ih (acc ++ [nvR env here acc y])
    refine ⟨?_, fun j hj => ?_⟩
    · show (valsGo env here (acc ++ [nvR env here acc y]) l).length = acc.length + (l.length + 1)
      rw [h1, List.length_append, List.length_singleton]; omega
    · show (valsGo env here (acc ++ [nvR env here acc y]) l)[j]? = acc[j]?
      rw [h2 j (by rw [List.length_append, List.length_singleton]; omega), List.getElem?_append_left hj]
theorem valsR_length (xs : List S34) : (valsR env here xs).length = xs.length := by
  unfold valsR
  rw [(valsGo_keep env here xs []).1]; simp
/-- A beginning's numbers are the whole's. -/
theorem valsR_take (xs : List S34) (m j : Nat) (hj : j < m) (hm : m ≤ xs.length) : (valsR env here (xs.take m))[j]? = (valsR env here xs)[j]? := by
  have h := valsGo_append env here (xs.take m) (xs.drop m) []
  rw [List.take_append_drop] at h
  unfold valsR
  rw [h, (valsGo_keep env here (xs.drop m) _).2 j (by rw [(valsGo_keep env here (xs.take m) []).1, List.length_take]; simp; omega)]
theorem valsR_at (xs : List S34) (i : Nat) (hi : i < xs.length) : (valsR env here xs)[i]? = some (nvR env here (valsR env here (xs.take i)) xs[i]) := by
  rw [← valsR_take env here xs (i + 1) i (by omega) (by omega)]
  unfold valsR
  rw [List.take_add_one, List.getElem?_eq_getElem hi, Option.toList_some, valsGo_append]
  show (valsGo env here [] (xs.take i) ++ [nvR env here (valsGo env here [] (xs.take i)) xs[i]])[i]? = _
  have hl : (valsGo env here [] (xs.take i)).length = i := by rw [(valsGo_keep env here (xs.take i) []).1, List.length_take]; simp; omega
  rw [List.getElem?_append_right (by omega), hl, Nat.sub_self]
  rfl
theorem atO_take (xs : List S34) (i : Nat) (hi : i ≤ xs.length) (c : Int) (h0 : 0 ≤ c) (h1 : c < (i : Int)) : atO (valsR env here (xs.take i)) c = atO (valsR env here xs) c := by
  unfold atO
  rw [List.getD_eq_getElem?_getD, List.getD_eq_getElem?_getD, valsR_take env here xs i c.toNat (by omega) hi]
end
/-! what is marked -/
def gB (m : List Bool) (i : Nat) : Bool := m.getD i false
theorem rdB_g (m : List Bool) (i : Nat) : rdB m (i : Int) = gB m i := rfl
theorem gB_set (m : List Bool) (c : Nat) (j : Nat) : gB (m.set c true) j = (gB m j || (decide (j = c) && decide (c < m.length))) := by
  unfold gB
  rw [List.getD_eq_getElem?_getD, List.getD_eq_getElem?_getD, List.getElem?_set]
  by_cases h : c = j
  · subst h
    rw [if_pos rfl]
    by_cases h2 : c < m.length
    · rw [if_pos h2]; simp [h2]
    · rw [if_neg h2, List.getElem?_eq_none (by omega)]; simp [h2]
  · rw [if_neg h]
    have : decide (j = c) = false := decide_eq_false (Ne.symm h)
    simp [this]
theorem markKids_g (ks : List Int) : ∀ (m : List Bool) (j : Nat), gB (markKids m ks) j = true ↔ (gB m j = true ∨ (∃ c ∈ ks, c.toNat = j) ∧ j < m.length) := by
  induction ks with
  | nil => intro m j; simp [markKids]
  | cons c ks ih =>
    intro m j
    show gB (markKids (m.set c.toNat true) ks) j = true ↔ _
    rw [ih, gB_set, List.length_set, Bool.or_eq_true, Bool.and_eq_true, decide_eq_true_eq, decide_eq_true_eq]
    constructor
    · rintro ((h | ⟨rfl, h2⟩) | ⟨⟨d, hd, rfl⟩, h2⟩)
      · exact .inl h
      · exact .inr ⟨⟨c, List.mem_cons_self .., rfl⟩, h2⟩
      · exact .inr ⟨⟨d, List.mem_cons_of_mem _ hd, rfl⟩, h2⟩
    · rintro (h | ⟨⟨d, hd, rfl⟩, h2⟩)
      · exact .inl (.inl h)
      · rcases List.mem_cons.1 hd with rfl | hd
        · exact .inl (.inr ⟨rfl, h2⟩)
        · exact .inr ⟨⟨d, hd, rfl⟩, h2⟩
theorem marksGo_g (xs : List S34) (hk : ∀ (i : Nat) (h : i < xs.length), ∀ c ∈ xs[i].f3, 0 ≤ c ∧ c < (i : Int)) (k : Nat) : ∀ m : List Bool, m.length = xs.length → k ≤ xs.length →
    (∀ j, gB m j = true → gB (marksGo xs k m) j = true) ∧ (∀ j, k ≤ j → gB (marksGo xs k m) j = gB m j) ∧
    (∀ (p : Nat) (hp : p < xs.length), p < k → gB (marksGo xs k m) p = true → ∀ c ∈ xs[p].f3, gB (marksGo xs k m) c.toNat = true) ∧
    (∀ j, gB (marksGo xs k m) j = true → gB m j = true ∨ ∃ (p : Nat) (hp : p < xs.length), j < p ∧ gB (marksGo xs k m) p = true ∧ ∃ c ∈ xs[p].f3, c.toNat = j) := by
  induction k with
  | zero => intro m _ _; exact ⟨fun _ h => h, fun _ _ => rfl, fun p _ h => absurd h (Nat.not_lt_zero _), fun j h => .inl h⟩
  | succ k ih =>
    intro m hm hkl
    have hlt : k < xs.length := by omega
    have hy : xs.getD k z34 = xs[k] := by rw [List.getD_eq_getElem?_getD, List.getElem?_eq_getElem hlt]; rfl
    obtain ⟨h1, h2, h3, h4⟩ := ih (markStep xs m k) (by rw [markStep_length, hm]) (by omega)
    have st : ∀ j, gB (markStep xs m k) j = true ↔ (gB m j = true ∨ (gB m k = true ∧ (∃ c ∈ xs[k].f3, c.toNat = j) ∧ j < m.length)) := by
      intro j
      unfold markStep
      rw [rdB_g, hy]
      by_cases c : gB m k = true
      · rw [if_pos c, markKids_g]; simp [c]
      · rw [if_neg c]; simp [c]
    have stk : ∀ j, k ≤ j → gB (markStep xs m k) j = gB m j := by
      intro j hj
      rw [Bool.eq_iff_iff, st]
      constructor
      · rintro (h | ⟨_, ⟨c, hc, rfl⟩, _⟩)
        · exact h
        · have := hk k hlt c hc; omega
      · exact .inl
    show (∀ j, gB m j = true → gB (marksGo xs k (markStep xs m k)) j = true) ∧ (∀ j, k + 1 ≤ j → gB (marksGo xs k (markStep xs m k)) j = gB m j) ∧ _ ∧ _
    refine ⟨fun j hj => h1 j ((st j).2 (.inl hj)), fun j hj => (h2 j (by omega)).trans (stk j (by omega)), fun p hp hpk hg c hc => ?_, fun j hj => ?_⟩
    · show gB (marksGo xs k (markStep xs m k)) c.toNat = true
      have hg' : gB (marksGo xs k (markStep xs m k)) p = true := hg
      by_cases e : p = k
      · subst e
        rw [h2 p (Nat.le_refl _), stk p (Nat.le_refl _)] at hg'
        have := hk p hp c hc
        exact h1 _ ((st _).2 (.inr ⟨hg', ⟨c, hc, rfl⟩, by omega⟩))
      · exact h3 p hp (by omega) hg' c hc
    · have hj' : gB (marksGo xs k (markStep xs m k)) j = true := hj
      rcases h4 j hj' with h | ⟨p, hp, hlt2, hg, hc⟩
      · rcases (st j).1 h with h | ⟨hg, ⟨c, hc, rfl⟩, _⟩
        · exact .inl h
        · refine .inr ⟨k, hlt, ?_, ?_, c, hc, rfl⟩
          · have := hk k hlt c hc; omega
          · show gB (marksGo xs k (markStep xs m k)) k = true
            rw [h2 k (Nat.le_refl _), stk k (Nat.le_refl _)]; exact hg
      · exact .inr ⟨p, hp, hlt2, hg, hc⟩
/-- What is marked: the last node, the kids of what is marked, and nothing else. -/
theorem marksR_g {xs : List S34} (ho : exprOkB xs = true) : gB (marksR xs) (xs.length - 1) = true ∧
    (∀ (p : Nat) (hp : p < xs.length), gB (marksR xs) p = true → ∀ c ∈ xs[p].f3, gB (marksR xs) c.toNat = true) ∧
    (∀ j, gB (marksR xs) j = true → j = xs.length - 1 ∨ ∃ (p : Nat) (hp : p < xs.length), j < p ∧ gB (marksR xs) p = true ∧ ∃ c ∈ xs[p].f3, c.toNat = j) := by
  have hp := expr_pos ho
  have hk := fun (i : Nat) (h : i < xs.length) => (node_facts ho i h).2.2
  have hl : ((List.replicate xs.length false).set (xs.length - 1) true).length = xs.length := by simp
  obtain ⟨h1, h2, h3, h4⟩ := marksGo_g xs hk xs.length _ hl (Nat.le_refl _)
  have g0 : ∀ j, gB ((List.replicate xs.length false).set (xs.length - 1) true) j = true ↔ j = xs.length - 1 := by
    intro j
    rw [gB_set]
    have : gB (List.replicate xs.length false) j = false := by
      unfold gB
      rw [List.getD_eq_getElem?_getD, List.getElem?_replicate]
      split <;> rfl
    rw [this, List.length_replicate, Bool.false_or, Bool.and_eq_true, decide_eq_true_eq, decide_eq_true_eq]
    omega
  refine ⟨h1 _ ((g0 _).2 rfl), fun p hp2 hg => h3 p hp2 hp2 hg, fun j hj => ?_⟩
  rcases h4 j hj with h | h
  · exact .inl ((g0 j).1 h)
  · exact .inr h
/-! the walk over the nodes -/
theorem rd_set_ne (l : List Int) (i j : Nat) (v : Int) (h : i ≠ j) : rd (l.set i v) (j : Int) = rd l (j : Int) := by
  unfold rd
  rw [List.getD_eq_getElem?_getD, List.getD_eq_getElem?_getD, Int.toNat_natCast, List.getElem?_set_ne h]
theorem rd_set_eq (l : List Int) (i : Nat) (v : Int) (h : i < l.length) : rd (l.set i v) (i : Int) = v := by
  unfold rd
  rw [List.getD_eq_getElem?_getD, Int.toNat_natCast, List.getElem?_set_self h]
  rfl
section
variable {env : List S87} {here : Int} {xs : List S34}
/-- A marked node's number, where the marked ones ahead have theirs. -/
theorem node_is (ho : exprOkB xs = true) (i : Nat) (hi : i < xs.length) (nums : List Int)
    (hn : ∀ c ∈ xs[i].f3, atO (valsR env here xs) c = some (rd nums c)) :
    atO (valsR env here xs) (i : Int) = if (nodeVal env here nums xs[i]).2 = true then fitR (nodeVal env here nums xs[i]).1 else none := by
  have hf := node_facts ho i hi
  have e1 : atO (valsR env here xs) (i : Int) = nvR env here (valsR env here (xs.take i)) xs[i] := by
    unfold atO
    rw [List.getD_eq_getElem?_getD, Int.toNat_natCast, valsR_at env here xs i hi]
    rfl
  rw [e1]
  unfold nvR nodeVal
  by_cases h1 : xs[i].f0 = 1
  · rw [if_pos h1, if_pos h1]; rfl
  by_cases h2 : xs[i].f0 = 2
  · rw [if_neg h1, if_neg h1, if_pos h2, if_pos h2]
  by_cases h3 : xs[i].f0 = 3
  · rw [if_neg h1, if_neg h1, if_neg h2, if_neg h2, if_pos h3, if_pos h3]; rfl
  have hk1 : 1 ≤ (xs[i].f3.length : Int) := by rw [hf.2.1]; unfold kidsOf; rw [if_neg (by omega)]; split <;> omega
  have m0 := rd_in xs[i].f3 0 (by omega) (by omega)
  have m1 := rd_in xs[i].f3 ((xs[i].f3.length : Int) - 1) (by omega) (by omega)
  have c0 := hf.2.2 _ m0
  have c1 := hf.2.2 _ m1
  rw [if_neg h1, if_neg h1, if_neg h2, if_neg h2, if_neg h3, if_neg h3, atO_take env here xs i (by omega) _ c0.1 c0.2, atO_take env here xs i (by omega) _ c1.1 c1.2, hn _ m0, hn _ m1]
  rfl
theorem evalGo_is (ho : exprOkB xs = true) (d : Nat) : ∀ (i : Nat) (nums : List Int), xs.length - i = d → i ≤ xs.length → nums.length = xs.length →
    (∀ j, j < i → gB (marksR xs) j = true → atO (valsR env here xs) (j : Int) = some (rd nums (j : Int))) →
    (evalGo env here (marksR xs) i nums (xs.drop i) = pairO (atO (valsR env here xs) ((xs.length - 1 : Nat) : Int)) ∧ ∀ j, j < xs.length → gB (marksR xs) j = true → atO (valsR env here xs) (j : Int) ≠ none) ∨
    (evalGo env here (marksR xs) i nums (xs.drop i) = (0, false) ∧ ∃ j, j < xs.length ∧ gB (marksR xs) j = true ∧ atO (valsR env here xs) (j : Int) = none) := by
  obtain ⟨g1, g2, g3⟩ := marksR_g ho
  have hpos := expr_pos ho
  induction d with
  | zero =>
    intro i nums hd hi hl hv
    refine .inl ⟨?_, fun j hj hg => by rw [hv j (by omega) hg]; simp⟩
    rw [List.drop_eq_nil_of_le (by omega)]
    show (rd nums ((nums.length : Int) - 1), true) = _
    rw [hv (xs.length - 1) (by omega) g1, hl, show ((xs.length : Int) - 1) = ((xs.length - 1 : Nat) : Int) from by omega]
    rfl
  | succ d ih =>
    intro i nums hd hi hl hv
    have hlt : i < xs.length := by omega
    rw [drop_get xs i hlt]
    show (((if rdB (marksR xs) (i : Int) then (if (nodeVal env here nums xs[i]).2 && numB (nodeVal env here nums xs[i]).1 then evalGo env here (marksR xs) (i + 1) (nums.set i (nodeVal env here nums xs[i]).1) (xs.drop (i + 1)) else (0, false)) else evalGo env here (marksR xs) (i + 1) nums (xs.drop (i + 1))) = _ ∧ _) ∨ _ = _ ∧ _)
    by_cases hg : gB (marksR xs) i = true
    · have hb : rdB (marksR xs) (i : Int) = true := hg
      have hn := node_is (env := env) (here := here) ho i hlt nums (fun c hc => by
        have h1 := (node_facts ho i hlt).2.2 c hc
        have h2 := hv c.toNat (by omega) (g2 i hlt hg c hc)
        rwa [show ((c.toNat : Nat) : Int) = c from by omega] at h2)
      show ((if rdB (marksR xs) (i : Int) = true then _ else _) = _ ∧ _) ∨ ((if rdB (marksR xs) (i : Int) = true then _ else _) = _ ∧ _)
      rw [if_pos hb]
      by_cases c : ((nodeVal env here nums xs[i]).2 && numB (nodeVal env here nums xs[i]).1) = true
      · rw [if_pos c]
        rw [Bool.and_eq_true] at c
        refine ih (i + 1) _ (by omega) (by omega) (by rw [List.length_set]; exact hl) (fun j hj hgj => ?_)
        by_cases e : j = i
        · subst e
          rw [hn, if_pos c.1, rd_set_eq nums j _ (by omega)]
          unfold fitR
          rw [if_pos c.2]
        · rw [rd_set_ne nums i j _ (Ne.symm e)]
          exact hv j (by omega) hgj
      · rw [if_neg c]
        refine .inr ⟨rfl, i, hlt, hg, ?_⟩
        rw [hn]
        unfold fitR
        by_cases c1 : (nodeVal env here nums xs[i]).2 = true
        · rw [if_pos c1]
          rw [c1, Bool.true_and] at c
          rw [if_neg c]
        · rw [if_neg c1]
    · have hb : ¬ rdB (marksR xs) (i : Int) = true := hg
      show ((if rdB (marksR xs) (i : Int) = true then _ else _) = _ ∧ _) ∨ ((if rdB (marksR xs) (i : Int) = true then _ else _) = _ ∧ _)
      rw [if_neg hb]
      exact ih (i + 1) nums (by omega) (by omega) hl (fun j hj hgj => hv j (by
        rcases Nat.lt_or_eq_of_le (Nat.lt_succ_iff.1 hj) with h | h
        · exact h
        · subst h; exact absurd hgj hg) hgj)
/-- What a node has not, no node above it has. -/
theorem none_up (ho : exprOkB xs = true) (d : Nat) : ∀ j, j < xs.length → xs.length - 1 - j ≤ d → gB (marksR xs) j = true → atO (valsR env here xs) (j : Int) = none → atO (valsR env here xs) ((xs.length - 1 : Nat) : Int) = none := by
  obtain ⟨g1, g2, g3⟩ := marksR_g ho
  induction d with
  | zero =>
    intro j hj hd _ hv
    rwa [show xs.length - 1 = j from by omega]
  | succ d ih =>
    intro j hj hd hg hv
    rcases g3 j hg with rfl | ⟨p, hp, hjp, hgp, c, hc, hcj⟩
    · exact hv
    · refine ih p hp (by omega) hgp ?_
      have hf := node_facts ho p hp
      have hcc := hf.2.2 c hc
      have hcv : atO (valsR env here xs) c = none := by rw [show c = (j : Int) from by omega]; exact hv
      have e1 : atO (valsR env here xs) (p : Int) = nvR env here (valsR env here (xs.take p)) xs[p] := by
        unfold atO
        rw [List.getD_eq_getElem?_getD, Int.toNat_natCast, valsR_at env here xs p hp]
        rfl
      have hkl : 1 ≤ (xs[p].f3.length : Int) ∧ (xs[p].f3.length : Int) ≤ 2 := by
        have h0 : 0 < xs[p].f3.length := List.length_pos_of_mem hc
        have h1 := hf.2.1
        unfold kidsOf at h1
        split at h1
        · omega
        · split at h1 <;> omega
      have hop : ¬ xs[p].f0 = 1 ∧ ¬ xs[p].f0 = 2 ∧ ¬ xs[p].f0 = 3 := by
        have h1 := hf.2.1
        unfold kidsOf at h1
        split at h1
        · omega
        · rename_i h; omega
      rw [e1]
      unfold nvR
      rw [if_neg hop.1, if_neg hop.2.1, if_neg hop.2.2]
      have m0 := rd_in xs[p].f3 0 (by omega) (by omega)
      have m1 := rd_in xs[p].f3 ((xs[p].f3.length : Int) - 1) (by omega) (by omega)
      have c0 := hf.2.2 _ m0
      have c1 := hf.2.2 _ m1
      rw [atO_take env here xs p (by omega) _ c0.1 c0.2, atO_take env here xs p (by omega) _ c1.1 c1.2]
      have hwhich : c = rd xs[p].f3 0 ∨ c = rd xs[p].f3 ((xs[p].f3.length : Int) - 1) := by
        obtain ⟨n, hn, rfl⟩ := List.getElem_of_mem hc
        by_cases h0 : n = 0
        · subst h0
          exact .inl (rdInt xs[p].f3 0 hn).symm
        · right
          rw [show (xs[p].f3.length : Int) - 1 = (n : Int) from by omega]
          exact (rdInt xs[p].f3 n hn).symm
      rcases hwhich with rfl | rfl
      · rw [hcv]; rfl
      · rw [hcv]
        cases atO (valsR env here xs) (rd xs[p].f3 0) <;> rfl
/-- The whole's number is the last node's. -/
theorem evalR_vals (ho : exprOkB xs = true) : evalR xs env here = pairO (atO (valsR env here xs) ((xs.length - 1 : Nat) : Int)) := by
  unfold evalR
  rw [if_pos ho]
  rcases evalGo_is (env := env) (here := here) ho xs.length 0 (List.replicate xs.length 0) (by omega) (by omega) (by simp) (fun j hj => absurd hj (Nat.not_lt_zero _)) with ⟨h, _⟩ | ⟨h, j, hj, hg, hv⟩
  · exact h
  · rw [List.drop_zero] at h
    rw [h, none_up ho xs.length j hj (by omega) hg hv]
    rfl
theorem okB_take (ho : exprOkB xs = true) (m : Nat) (h1 : 1 ≤ m) (h2 : m ≤ xs.length) : exprOkB (xs.take m) = true := by
  have hp := expr_pos ho
  unfold exprOkB at ho ⊢
  rw [Bool.and_eq_true] at ho ⊢
  refine ⟨?_, decide_eq_true (by rw [List.length_take]; omega)⟩
  have go : ∀ (l : List S34) (j m : Nat), nodesB j l = true → nodesB j (l.take m) = true := by
    intro l
    induction l with
    | nil => intro j m _; simp [nodesB]
    | cons y l ih =>
      intro j m h
      cases m with
      | zero => rfl
      | succ m =>
        have h' : nodeB j y = true ∧ nodesB (j + 1) l = true := by simpa [nodesB] using h
        show (nodeB j y && nodesB (j + 1) (l.take m)) = true
        rw [h'.1, ih _ m h'.2]; rfl
  exact go xs 0 m ho.1
/-- A part's number is its last node's in the whole. -/
theorem evalR_part (ho : exprOkB xs = true) (c : Nat) (hc : c < xs.length) : evalR (xs.take (c + 1)) env here = pairO (atO (valsR env here xs) (c : Int)) := by
  have hl : (xs.take (c + 1)).length = c + 1 := by rw [List.length_take]; omega
  rw [evalR_vals (okB_take ho (c + 1) (by omega) (by omega)), hl, show c + 1 - 1 = c from rfl, atO_take env here xs (c + 1) (by omega) _ (by omega) (by omega)]
end

/-! ### isSmall -/
theorem isSmall_is (s : ByteArray) (i : Int) : impl_isSmall.f (bt s i) = some (decide (97 ≤ bt s i ∧ bt s i ≤ 122)) := by
  unfold impl_isSmall.f
  rw [w64_bt, within_is]; rfl

/-! ### implVarName -/
theorem implVarName_l0 (s : ByteArray) (hs : s.size ≤ 140737488351232) (d : Nat) : ∀ (k i : Nat), s.size - i ≤ d → d < k →
    impl_VarName.l0 k s (s.size : Int) (i : Int) = some (((bs s).drop i).all small && decide (1 ≤ (s.size : Int) ∧ (s.size : Int) ≤ 4)) := by
  induction d with
  | zero =>
    intro k i hd hk
    obtain ⟨k, rfl⟩ : ∃ m, k = m + 1 := ⟨k - 1, by omega⟩
    simp only [impl_VarName.l0]
    rw [if_neg (by omega), within_is, bs_drop_nil s i (by omega)]; simp
  | succ d ih =>
    intro k i hd hk
    obtain ⟨k, rfl⟩ : ∃ m, k = m + 1 := ⟨k - 1, by omega⟩
    by_cases hi : i < s.size
    · have e := ih k (i + 1) (by omega) (by omega)
      simp only [impl_VarName.l0]
      rw [if_pos (by omega), if_pos (by omega), if_pos (by omega), isSmall_is, Option.bind_some, w64_succ hi hs, e, bs_drop s i hi]
      simp only [List.all_cons]
      by_cases h1 : 97 ≤ bt s i ∧ bt s i ≤ 122
      · rw [if_pos (by simpa using h1), show small (bt s i) = true from by simp [small]; omega]; simp
      · rw [if_neg (by simpa using h1), show small (bt s i) = false from by simp [small]; omega]; simp
    · simp only [impl_VarName.l0]
      rw [if_neg (by omega), within_is, bs_drop_nil s i (by omega)]; simp
theorem implVarName_is (s : ByteArray) (hs : s.size ≤ 140737488351232) (k : Nat) (hk : s.size < k) : impl_VarName.f k s = some (varNameB s) := by
  unfold impl_VarName.f
  exact implVarName_l0 s hs s.size k 0 (by omega) hk

/-! ### implExprOk -/
theorem implKidCount_is (op : Int) : impl_kidCount.f op = some (if 1 ≤ op ∧ op ≤ 11 then kidsOf op else -1) := by
  unfold impl_kidCount.f kidsOf
  rw [within_is, Option.bind_some]
  by_cases h1 : 1 ≤ op ∧ op ≤ 3
  · rw [if_pos (decide_eq_true h1), if_pos (by omega), if_pos (by omega)]
  · rw [if_neg (by simpa using h1), within_is, Option.bind_some]
    by_cases h2 : 4 ≤ op ∧ op ≤ 10
    · rw [if_pos (decide_eq_true h2), if_pos (by omega), if_neg (by omega), if_neg (by omega)]
    · rw [if_neg (by simpa using h2)]
      by_cases h3 : op = 11
      · rw [if_pos h3, if_pos (by omega), if_neg (by omega), if_pos h3]
      · rw [if_neg h3, if_neg (by omega)]
theorem implNode_j0 (op num : Int) (s : ByteArray) (hs : s.size ≤ 1048576) (ks : List Int) (b : Bool) (k : Nat) (hk : 1048577 < k) :
    impl_exNodeOk.j0 k b op num s ks = some (!b && numOk op num && nameOk op s) := by
  obtain ⟨k, rfl⟩ : ∃ m, k = m + 1 := ⟨k - 1, by omega⟩
  rw [impl_exNodeOk.j0]
  cases b with
  | true => rw [if_pos (show true = true from rfl)]; rfl
  | false =>
    rw [if_neg (by simp), implVarName_is s (by omega) k (by omega), within_is]
    simp only [Option.bind_some, Bool.not_false, Bool.true_and]
    unfold numOk nameOk
    by_cases h2 : op = 2
    · have h1 : ¬ op = 1 := by omega
      by_cases h0 : num = 0
      · by_cases he : s.toList = ([] : List UInt8)
        · simp [h2, h0, he]
        · simp [h2, h0, he]
      · by_cases he : s.toList = ([] : List UInt8)
        · simp [h2, h0, he]
        · simp [h2, h0, he]
    · by_cases h1 : op = 1
      · by_cases h0 : num = 0
        · by_cases he : s.toList = ([] : List UInt8)
          · simp [h1, h0, he]
          · simp [h1, h0, he]
        · by_cases he : s.toList = ([] : List UInt8)
          · by_cases hr : 0 ≤ num ∧ num ≤ 99
            · simp [h1, h0, he, hr]
            · simp [h1, h0, he, if_neg hr]; intro h; omega
          · by_cases hr : 0 ≤ num ∧ num ≤ 99
            · simp [h1, h0, he]
            · simp [h1, h0, he]
      · by_cases h0 : num = 0
        · by_cases he : s.toList = ([] : List UInt8)
          · simp [h1, h2, h0, he]
          · simp [h1, h2, h0, he]
        · by_cases he : s.toList = ([] : List UInt8)
          · simp [h1, h2, h0, he]
          · simp [h1, h2, h0, he]
theorem implNode_is (i : Nat) (hi : i ≤ 1048576) (y : S34) (hy : y.f2.size ≤ 1048576 ∧ y.f3.length ≤ 1048576) (k : Nat) (hk : 1048577 < k) : impl_exNodeOk.f k y.f0 y.f1 y.f2 y.f3 (i : Int) = some (nodeB i y) := by
  unfold impl_exNodeOk.f nodeB
  rw [implKidCount_is, Option.bind_some]
  by_cases hr : 1 ≤ y.f0 ∧ y.f0 ≤ 11
  · rw [if_pos hr, show decide (1 ≤ y.f0 ∧ y.f0 ≤ 11) = true from decide_eq_true hr, Bool.true_and]
    by_cases hq : (y.f3.length : Int) = kidsOf y.f0
    · rw [if_pos hq, implKidsAhead_is y.f3 hy.2 i (by omega) k (by omega), Option.bind_some, implNode_j0 _ _ _ hy.1 _ _ k hk, show decide ((y.f3.length : Int) = kidsOf y.f0) = true from decide_eq_true hq]
      congr 1
      cases kidsIn i y.f3 <;> simp
    · rw [if_neg hq, implNode_j0 _ _ _ hy.1 _ _ k hk, show decide ((y.f3.length : Int) = kidsOf y.f0) = false from decide_eq_false hq]; simp
  · rw [if_neg hr, show decide (1 ≤ y.f0 ∧ y.f0 ≤ 11) = false from decide_eq_false hr, if_neg (by omega), implNode_j0 _ _ _ hy.1 _ _ k hk]; simp
theorem implExprOk_is (xs : List S34) (hz : smallX xs) (k : Nat) (hk : xs.length + 1048578 < k) : impl_ExprOk.f k xs = some (exprOkB xs) := by
  have hl := hz.1
  have go : ∀ (d k i : Nat), xs.length - i ≤ d → d + 1048578 < k → impl_ExprOk.l0 k xs (xs.length : Int) (i : Int) xs = some (nodesB i (xs.drop i) && decide (1 ≤ (xs.length : Int) ∧ (xs.length : Int) ≤ 20)) := by
    intro d
    induction d with
    | zero =>
      intro k i hd hk
      obtain ⟨k, rfl⟩ : ∃ m, k = m + 1 := ⟨k - 1, by omega⟩
      rw [impl_ExprOk.l0, if_neg (by omega), List.drop_eq_nil_of_le (by omega), within_is]; rfl
    | succ d ih =>
      intro k i hd hk
      obtain ⟨k, rfl⟩ : ∃ m, k = m + 1 := ⟨k - 1, by omega⟩
      by_cases hi : i < xs.length
      · have hy := hz.2 _ (List.getElem_mem hi)
        rw [impl_ExprOk.l0, if_pos (by omega), if_pos (by omega), if_pos (by omega), rdE xs i hi, implNode_is i (by omega) _ hy k (by omega), Option.bind_some, w64_len hi (by omega), ih k (i + 1) (by omega) (by omega), drop_get xs i hi]
        simp only [nodesB]
        cases nodeB i xs[i] <;> simp
      · rw [impl_ExprOk.l0, if_neg (by omega), List.drop_eq_nil_of_le (by omega), within_is]; rfl
  unfold impl_ExprOk.f
  exact go xs.length k 0 (by omega) (by omega)

/-! ### implEnvGet -/
theorem implEnvGet_l0 (xs : List S87) (s : ByteArray) (hl : xs.length ≤ 9223372036854775807) (d : Nat) : ∀ (k i : Nat), xs.length - i ≤ d → d < k → impl_EnvGet.l0 k s xs (xs.length : Int) (i : Int) = some (envGetL s (xs.drop i)) := by
  induction d with
  | zero =>
    intro k i hd hk
    obtain ⟨k, rfl⟩ : ∃ m, k = m + 1 := ⟨k - 1, by omega⟩
    rw [impl_EnvGet.l0, if_neg (by omega), List.drop_eq_nil_of_le (by omega)]; rfl
  | succ d ih =>
    intro k i hd hk
    obtain ⟨k, rfl⟩ : ∃ m, k = m + 1 := ⟨k - 1, by omega⟩
    by_cases hi : i < xs.length
    · rw [impl_EnvGet.l0, if_pos (by omega), if_pos (by omega), if_pos (by omega), rdI' xs i hi, w64_len hi hl, ih k (i + 1) (by omega) (by omega), drop_get xs i hi]
      simp only [envGetL]
      by_cases h : xs[i].f0 = s
      · rw [if_pos (toList_eq.2 h), if_pos h]
      · rw [if_neg (fun e => h (toList_eq.1 e)), if_neg h]
    · rw [impl_EnvGet.l0, if_neg (by omega), List.drop_eq_nil_of_le (by omega)]; rfl
theorem implEnvGet_is (xs : List S87) (s : ByteArray) (hl : xs.length ≤ 9223372036854775807) (k : Nat) (hk : xs.length < k) : impl_EnvGet.f k xs s = some (envGetL s xs) := by
  unfold impl_EnvGet.f
  exact implEnvGet_l0 xs s hl xs.length k 0 (by omega) hk

/-! ### isNum -/
theorem isNum_is (n : Int) : impl_isNum.f n = some (decide (-9999 ≤ n ∧ n ≤ 9999)) := by
  unfold impl_isNum.f
  rw [within_is]; rfl

/-! ### implEval -/
theorem implReached_l1 (xs : List S34) (hl : xs.length ≤ 20) (i : Nat) (hi : i < xs.length) (ks : List Int) (hr : ∀ c ∈ ks, 0 ≤ c ∧ c < (i : Int)) (hkl : ks.length ≤ 2) (r : Nat) : ∀ (k j : Nat) (m : List Bool), ks.length - j = r → j ≤ ks.length → m.length = xs.length →
    impl_reachedNodes.l1 (k + r + 1) m (i : Int) ks (ks.length : Int) (j : Int) xs = impl_reachedNodes.l0 k (if rdB m (i : Int) then markKids m (ks.drop j) else m) (wrap64 ((i : Int) - 1)) xs := by
  induction r with
  | zero =>
    intro k j m hd hj hm
    rw [impl_reachedNodes.l1, if_neg (by omega), List.drop_eq_nil_of_le (by omega)]
    show _ = impl_reachedNodes.l0 k (if rdB m (i : Int) then m else m) _ _
    rw [ite_self]
  | succ r ih =>
    intro k j m hd hj hm
    have hj2 : j < ks.length := by omega
    have hc := hr ks[j] (List.getElem_mem hj2)
    obtain ⟨c, hcn⟩ := Int.eq_ofNat_of_zero_le hc.1
    have hcl : c < m.length := by omega
    rw [show k + (r + 1) + 1 = (k + r + 1) + 1 from by omega, impl_reachedNodes.l1, if_pos (by omega), if_pos (by omega), if_pos (by omega), rdInt ks j hj2, if_pos hc.1, if_pos (by omega), w64_len hj2 (by omega), drop_get ks j hj2]
    have set_self : rdB m (c : Int) = rdB m (i : Int) → m.set c (rdB m (i : Int)) = m := by
      intro e
      rw [← e, rdB_at m c hcl]
      exact List.set_getElem_self hcl
    have hmk : markKids m (ks[j] :: ks.drop (j + 1)) = markKids (m.set c true) (ks.drop (j + 1)) := by show markKids (m.set (ks[j]).toNat true) _ = _; rw [show (ks[j]).toNat = c from by omega]
    have hset : ∀ v : Bool, rdB (m.set c v) (i : Int) = rdB m (i : Int) := fun v => rdB_set_ne _ _ _ _ (by omega)
    rw [show (ks[j]).toNat = c from by omega]
    by_cases hb : rdOf false m ks[j] = true
    · rw [if_pos hb, ih k (j + 1) _ (by omega) (by omega) (by rw [List.length_set]; exact hm), hset, hmk]
      by_cases hbi : rdB m (i : Int) = true
      · rw [if_pos hbi, if_pos hbi]
      · rw [if_neg hbi, if_neg hbi]
        have hb2 : rdB m (c : Int) = true := by rw [← hcn]; exact hb
        have : m.set c true = m := by
          rw [rdB_at m c hcl] at hb2
          rw [← hb2]
          exact List.set_getElem_self hcl
        rw [this]
    · rw [if_neg hb, if_pos (by omega), if_pos (by omega), ih k (j + 1) _ (by omega) (by omega) (by rw [List.length_set]; exact hm), hset, hmk]
      by_cases hbi : rdB m (i : Int) = true
      · rw [if_pos hbi, if_pos hbi, show rdOf false m (i : Int) = true from hbi]
      · rw [if_neg hbi, if_neg hbi, show rdOf false m (i : Int) = false from (by have h9 : rdB m (i : Int) = false := (by simpa using hbi); exact h9)]
        have hb2 : rdB m (c : Int) = false := by rw [← hcn]; simpa [rdB] using hb
        have : m.set c false = m := by
          rw [rdB_at m c hcl] at hb2
          rw [← hb2]
          exact List.set_getElem_self hcl
        rw [this]
theorem implReached_l0 (xs : List S34) (ho : exprOkB xs = true) (n : Nat) : ∀ (m : List Bool), n ≤ xs.length → m.length = xs.length → Ev (fun k => impl_reachedNodes.l0 k m ((n : Int) - 1) xs) (marksGo xs n m) := by
  have hp := expr_pos ho
  induction n with
  | zero =>
    intro m _ hm
    refine Ev.shift 1 (f := fun _ => some m) (fun k => ?_) (Ev.now _)
    rw [impl_reachedNodes.l0, if_neg (by omega)]
  | succ n ih =>
    intro m hn hm
    have hi : n < xs.length := by omega
    have hf := node_facts ho n hi
    have hkl : xs[n].f3.length ≤ 2 := by have := hf.2.1; unfold kidsOf at this; split at this <;> (try split at this) <;> omega
    have e := ih (markStep xs m n) (by omega) (by rw [markStep_length]; exact hm)
    have ew : wrap64 ((n : Int) - 1) = (n : Int) - 1 := w64 (by omega) (by omega)
    have hs : markStep xs m n = (if rdB m (n : Int) then markKids m xs[n].f3 else m) := by unfold markStep; simp [List.getD, List.getElem?_eq_getElem hi]
    show Ev _ (marksGo xs n (markStep xs m n))
    refine Ev.shift (xs[n].f3.length + 2) (fun k => ?_) e
    have l1 := implReached_l1 xs hp.2 n hi xs[n].f3 hf.2.2 hkl xs[n].f3.length k 0 m (by omega) (by omega) hm
    rw [List.drop_zero, ew, ← hs] at l1
    rw [show k + (xs[n].f3.length + 2) = (k + xs[n].f3.length + 1) + 1 from by omega, impl_reachedNodes.l0, if_pos (by omega), show ((n + 1 : Nat) : Int) - 1 = (n : Int) from by omega, if_pos (by omega), if_pos (by omega), rdE xs n hi]
    exact l1
theorem implReached_ev (xs : List S34) (ho : exprOkB xs = true) : Ev (fun k => impl_reachedNodes.f k xs) (marksR xs) := by
  have hp := expr_pos ho
  have e := implReached_l0 xs ho xs.length ((List.replicate xs.length false).set (xs.length - 1) true) (by omega) (by simp)
  refine Ev.congr (fun k => ?_) e
  unfold impl_reachedNodes.f
  rw [if_pos (by omega), if_pos (by omega), Option.bind_some, show ((xs.length : Int)).toNat = xs.length from by omega, w64 (by omega) (by omega), if_pos (by omega), if_pos (by rw [List.length_replicate]; omega), show ((xs.length : Int) - 1).toNat = xs.length - 1 from by omega]
theorem implFlag_is (b : Bool) : impl_flag.f b = some (flagR b) := by unfold impl_flag.f flagR; split <;> rfl
theorem implReckon_is (op a b : Int) : impl_reckon.f op a b = some (reckonR op a b) := by
  unfold impl_reckon.f reckonR
  simp only [implFlag_is, Option.bind_some]
  by_cases h4 : op = 4
  · simp [h4]
  by_cases h5 : op = 5
  · simp [h5]
  by_cases h6 : op = 6
  · simp [h6]
  by_cases h8 : op = 8
  · simp [h8]
  by_cases h9 : op = 9
  · simp [h9]
  by_cases h10 : op = 10
  · by_cases ha : a = 0
    · simp [h10, ha]
    · have h1 : (a != 0) = true := bne_iff_ne.2 ha
      simp [h10, ha, h1]
  by_cases h11 : op = 11
  · simp [h11]
  by_cases hb : b = 0
  · simp [h4, h5, h6, h8, h9, h10, h11, hb]
  · simp [h4, h5, h6, h8, h9, h10, h11, hb]
theorem implNodeVal_is (xs : List S34) (ho : exprOkB xs = true) (i : Nat) (hi : i < xs.length) (env : List S87) (hel : env.length ≤ 1048576) (here : Int) (nums : List Int) (hn : nums.length = xs.length) (k : Nat) (hk : env.length < k) :
    impl_evalNode.f k xs[i].f0 xs[i].f1 xs[i].f2 xs[i].f3 nums env here = some (nodeVal env here nums xs[i]) := by
  have hf := node_facts ho i hi
  unfold impl_evalNode.f nodeVal
  by_cases h1 : xs[i].f0 = 1
  · rw [if_pos h1, if_pos h1]
  by_cases h2 : xs[i].f0 = 2
  · rw [if_neg h1, if_neg h1, if_pos h2, if_pos h2, implEnvGet_is env _ (by omega) k hk]; rfl
  by_cases h3 : xs[i].f0 = 3
  · rw [if_neg h1, if_neg h1, if_neg h2, if_neg h2, if_pos h3, if_pos h3]
  have hk1 : 1 ≤ (xs[i].f3.length : Int) ∧ (xs[i].f3.length : Int) ≤ 2 := by rw [hf.2.1]; unfold kidsOf; rw [if_neg (by omega)]; split <;> omega
  have hc := hf.2.2 _ (rd_in xs[i].f3 0 (by omega) (by omega))
  have hc1 := hf.2.2 _ (rd_in xs[i].f3 ((xs[i].f3.length : Int) - 1) (by omega) (by omega))
  rw [if_neg h1, if_neg h1, if_neg h2, if_neg h2, if_neg h3, if_neg h3, if_pos (by omega), if_pos hc.1, if_pos (by omega), w64 (by omega) (by omega), if_pos (by omega), if_pos (by omega), if_pos hc1.1, if_pos (by omega), implReckon_is]
  rfl
theorem implEval_l0 (xs : List S34) (ho : exprOkB xs = true) (env : List S87) (hel : env.length ≤ 1048576) (here : Int) (m : List Bool) (hm : m.length = xs.length) (d : Nat) : ∀ (k i : Nat) (nums : List Int), xs.length - i = d → i ≤ xs.length → nums.length = xs.length → env.length + d + 1 < k →
    impl_EvalExpr.l0 k env here nums m (m.length : Int) (i : Int) xs = some (evalGo env here m i nums (xs.drop i)) := by
  have hp := expr_pos ho
  induction d with
  | zero =>
    intro k i nums hd hi hn hk
    obtain ⟨k, rfl⟩ : ∃ m, k = m + 1 := ⟨k - 1, by omega⟩
    rw [impl_EvalExpr.l0, if_neg (by omega), w64 (by omega) (by omega), if_pos (by omega), if_pos (by omega), List.drop_eq_nil_of_le (by omega)]; rfl
  | succ d ih =>
    intro k i nums hd hi hn hk
    obtain ⟨k, rfl⟩ : ∃ m, k = m + 1 := ⟨k - 1, by omega⟩
    have hi2 : i < xs.length := by omega
    rw [drop_get xs i hi2]
    show _ = some (if rdB m (i : Int) then (if (nodeVal env here nums xs[i]).2 && numB (nodeVal env here nums xs[i]).1 then evalGo env here m (i + 1) (nums.set i (nodeVal env here nums xs[i]).1) (xs.drop (i + 1)) else (0, false)) else evalGo env here m (i + 1) nums (xs.drop (i + 1)))
    rw [impl_EvalExpr.l0, if_pos (by omega), if_pos (by omega), if_pos (by omega)]
    by_cases hb : rdB m (i : Int) = true
    · have hb2 : rdOf false m (i : Int) = true := hb
      rw [if_pos hb, if_pos hb2, if_pos (by omega), rdE xs i hi2, implNodeVal_is xs ho i hi2 env hel here nums hn k (by omega), Option.bind_some]
      by_cases hg : (nodeVal env here nums xs[i]).2 = true
      · rw [if_pos hg, isNum_is, Option.bind_some, hg, Bool.true_and]
        by_cases hv : numB (nodeVal env here nums xs[i]).1 = true
        · have hv2 : decide (-9999 ≤ (nodeVal env here nums xs[i]).1 ∧ (nodeVal env here nums xs[i]).1 ≤ 9999) = true := hv
          rw [if_pos hv, if_pos hv2, if_pos (by omega), w64_len hi2 (by omega), show ((i : Int)).toNat = i from by omega]
          exact ih k (i + 1) _ (by omega) (by omega) (by rw [List.length_set]; exact hn) (by omega)
        · have hv2 : ¬ decide (-9999 ≤ (nodeVal env here nums xs[i]).1 ∧ (nodeVal env here nums xs[i]).1 ≤ 9999) = true := hv
          rw [if_neg hv, if_neg hv2]
      · rw [if_neg hg, show (nodeVal env here nums xs[i]).2 = false from by simpa using hg, Bool.false_and, if_neg (by simp)]
    · have hb2 : ¬ rdOf false m (i : Int) = true := hb
      rw [if_neg hb, if_neg hb2, w64_len hi2 (by omega)]
      exact ih k (i + 1) nums (by omega) (by omega) hn (by omega)
theorem implEvalExpr_ev (xs : List S34) (hz : smallX xs) (env : List S87) (hel : env.length ≤ 1048576) (here : Int) : Ev (fun k => impl_EvalExpr.f k xs env here) (evalR xs env here) := by
  unfold impl_EvalExpr.f evalR
  refine Ev.bind (Ev.from (xs.length + 1048578) (implExprOk_is xs hz)) ?_
  by_cases ho : exprOkB xs = true
  · have hp := expr_pos ho
    rw [if_pos ho]
    refine Ev.congr (f := fun k => (impl_reachedNodes.f k xs).bind fun t => impl_EvalExpr.l0 k env here (List.replicate xs.length 0) t (t.length : Int) 0 xs) (fun k => ?_) (Ev.bind (implReached_ev xs ho) ?_)
    · rw [if_pos ho, if_pos (by omega), if_pos (by omega), show ((xs.length : Int)).toNat = xs.length from by omega]
    · exact Ev.from (env.length + xs.length + 1) (fun k hk => implEval_l0 xs ho env hel here (marksR xs) (marksR_length xs) xs.length k 0 _ (by omega) (by omega) (by simp) hk)
  · rw [if_neg ho]
    exact Ev.congr (f := fun _ => some (0, false)) (fun k => if_neg ho) (Ev.now _)

/-! ### specExprOk -/
section
variable (xs : List S34) (hz : smallX xs) (i : Nat) (hi : i < xs.length) (op num : Int) (s : ByteArray) (hs : s.size ≤ 1048576) (ks : List Int) (hk : ks.length ≤ 1048576) (r : Bool)
theorem specExpr_l1 (hi : i < 9223372036854775807) (hk : ks.length ≤ 1048576) (hn : Ev (fun k => spec_ExprOk.l0 k (wrap64 ((i : Int) + 1)) xs) r) (d : Nat) : ∀ j : Nat, ks.length - j = d → j ≤ ks.length →
    Ev (fun k => spec_ExprOk.l1 k (i : Int) (j : Int) xs op num s ks) (if kidsIn i (ks.drop j) then r else false) := by
  induction d with
  | zero =>
    intro j hd hj
    rw [List.drop_eq_nil_of_le (show ks.length ≤ j by omega), if_pos (by rfl)]
    refine Ev.shift 1 (fun k => ?_) hn
    rw [spec_ExprOk.l1, if_neg (by omega)]
  | succ d ih =>
    intro j hd hj
    have hj2 : j < ks.length := by omega
    have e := ih (j + 1) (by omega) (by omega)
    rw [drop_get ks j hj2, kidsIn_cons]
    by_cases hc : kidIn i ks[j] = true
    · rw [hc, Bool.true_and]
      refine Ev.shift 1 (fun k => ?_) e
      have hc2 : decide (0 ≤ ks[j] ∧ ks[j] ≤ (i : Int) - 1) = true := hc
      rw [spec_ExprOk.l1, if_pos (by omega), if_pos (by omega), rdInt ks j hj2, l01In_is, Option.bind_some, w64 (n := (i : Int) - 1) (by omega) (by omega), hc2, if_pos (show true = true from rfl), w64_len hj2 (by omega)]
    · have hc' : kidIn i ks[j] = false := by simpa using hc
      rw [hc', Bool.false_and, if_neg (by simp)]
      refine Ev.shift 1 (f := fun _ => some false) (fun k => ?_) (Ev.now _)
      have hc2 : decide (0 ≤ ks[j] ∧ ks[j] ≤ (i : Int) - 1) = false := hc'
      rw [spec_ExprOk.l1, if_pos (by omega), if_pos (by omega), rdInt ks j hj2, l01In_is, Option.bind_some, w64 (n := (i : Int) - 1) (by omega) (by omega), hc2, if_neg (by simp)]
theorem specExpr_j2 (hi : i < 9223372036854775807) (hk : ks.length ≤ 1048576) (hn : Ev (fun k => spec_ExprOk.l0 k (wrap64 ((i : Int) + 1)) xs) r) (b : Bool) :
    Ev (fun k => spec_ExprOk.j2 k (i : Int) b xs op num s ks) (if !b && kidsIn i ks then r else false) := by
  cases b with
  | true =>
    refine Ev.shift 1 (f := fun _ => some false) (fun k => ?_) (Ev.now _)
    rw [spec_ExprOk.j2, if_pos (show true = true from rfl)]
  | false =>
    have e := specExpr_l1 xs i op num s ks r hi hk hn ks.length 0 (by omega) (by omega)
    rw [List.drop_zero] at e
    refine Ev.shift 1 (fun k => ?_) e
    rw [spec_ExprOk.j2, if_neg (by simp)]; rfl
theorem specExpr_j1 (hi : i < 9223372036854775807) (hk : ks.length ≤ 1048576) (hs : s.size ≤ 1048576) (hn : Ev (fun k => spec_ExprOk.l0 k (wrap64 ((i : Int) + 1)) xs) r) (b : Bool) :
    Ev (fun k => spec_ExprOk.j1 k (i : Int) b xs op num s ks) (if !b && numOk op num && nameOk op s && kidsIn i ks then r else false) := by
  have J := specExpr_j2 xs i op num s ks r hi hk hn
  have hv : Ev (fun k => spec_VarName.f k s) (varNameB s) := Ev.from s.size (fun k hk => specVarName_is s (by omega) k hk)
  cases b with
  | true =>
    refine Ev.shift 1 (f := fun _ => some false) (fun k => ?_) (Ev.now _)
    rw [spec_ExprOk.j1, if_pos (show true = true from rfl)]
  | false =>
    have name : ∀ c : Bool, c = true → Ev (fun k => if op = 2 then ((spec_VarName.f k s).bind fun t => (if t = true then spec_ExprOk.j2 k (i : Int) false xs op num s ks else spec_ExprOk.j2 k (i : Int) true xs op num s ks)) else spec_ExprOk.j2 k (i : Int) (s.toList != ([] : List UInt8)) xs op num s ks) (if nameOk op s && kidsIn i ks then r else false) := by
      intro _ _
      by_cases h2 : op = 2
      · refine Ev.congr (fun k => if_pos h2) (Ev.bind hv ?_)
        have hnm : nameOk op s = varNameB s := by unfold nameOk; rw [if_pos h2]
        rw [hnm]
        by_cases hb : varNameB s = true
        · rw [hb]; exact Ev.congr (fun k => if_pos rfl) (J false)
        · rw [show varNameB s = false from by simpa using hb]; exact Ev.congr (fun k => if_neg (by simp)) (J true)
      · refine Ev.congr (fun k => if_neg h2) ?_
        have hnm : nameOk op s = !(s.toList != ([] : List UInt8)) := by unfold nameOk; rw [if_neg h2, bne_nil, Bool.not_not]
        rw [hnm]
        exact J _
    by_cases h1 : op = 1
    · have hnum : numOk op num = decide (0 ≤ num ∧ num ≤ 99) := by unfold numOk; rw [if_pos h1]
      refine Ev.shift 1 (f := fun k => (spec_l01In.f num 0 99).bind fun t => (if t = true then (if op = 2 then ((spec_VarName.f k s).bind fun t => (if t = true then spec_ExprOk.j2 k (i : Int) false xs op num s ks else spec_ExprOk.j2 k (i : Int) true xs op num s ks)) else spec_ExprOk.j2 k (i : Int) (s.toList != ([] : List UInt8)) xs op num s ks) else spec_ExprOk.j2 k (i : Int) true xs op num s ks)) (fun k => ?_) ?_
      · rw [spec_ExprOk.j1, if_neg (by simp), if_pos h1]
      · rw [l01In_is, hnum]
        simp only [Option.bind_some, Bool.not_false, Bool.true_and]
        by_cases hb : decide (0 ≤ num ∧ num ≤ 99) = true
        · rw [hb]; exact Ev.congr (fun k => if_pos rfl) (name true rfl)
        · rw [show decide (0 ≤ num ∧ num ≤ 99) = false from by simpa using hb]; exact Ev.congr (fun k => if_neg (by simp)) (J true)
    · have hnum : numOk op num = decide (num = 0) := by unfold numOk; rw [if_neg h1]
      by_cases h0 : num = 0
      · refine Ev.shift 1 (f := fun k => if op = 2 then ((spec_VarName.f k s).bind fun t => (if t = true then spec_ExprOk.j2 k (i : Int) false xs op num s ks else spec_ExprOk.j2 k (i : Int) true xs op num s ks)) else spec_ExprOk.j2 k (i : Int) (s.toList != ([] : List UInt8)) xs op num s ks) (fun k => ?_) ?_
        · rw [spec_ExprOk.j1, if_neg (by simp), if_neg h1, if_pos h0]
        · rw [hnum, show decide (num = 0) = true from decide_eq_true h0]
          exact name true rfl
      · refine Ev.shift 1 (f := fun k => spec_ExprOk.j2 k (i : Int) true xs op num s ks) (fun k => ?_) ?_
        · rw [spec_ExprOk.j1, if_neg (by simp), if_neg h1, if_neg h0]
        · rw [hnum, show decide (num = 0) = false from decide_eq_false h0]
          exact J true
end
theorem specKids_ev (op : Int) : Ev (fun k => spec_l04Kids.f k op) (kidsOf op) := by
  have j : ∀ b : Bool, Ev (fun k => spec_l04Kids.j0 k op b) (if b then 0 else if op = 11 then 1 else 2) := by
    intro b
    refine Ev.shift 1 (f := fun _ => some (if b then 0 else if op = 11 then 1 else 2)) (fun k => ?_) (Ev.now _)
    rw [spec_l04Kids.j0]
    cases b <;> simp
    split <;> rfl
  unfold spec_l04Kids.f kidsOf
  by_cases h1 : op = 1
  · rw [if_pos (.inl h1)]
    have e := j (op == 1)
    rw [show (op == 1) = true from by simpa using h1] at e
    exact Ev.congr (fun k => by rw [if_pos h1, show (op == 1) = true from by simpa using h1]) e
  · by_cases h2 : op = 2
    · rw [if_pos (.inr (.inl h2))]
      have e := j (op == 2)
      rw [show (op == 2) = true from by simpa using h2] at e
      exact Ev.congr (fun k => by rw [if_neg h1, if_pos h2, show (op == 2) = true from by simpa using h2]) e
    · by_cases h3 : op = 3
      · rw [if_pos (.inr (.inr h3))]
        have e := j (op == 3)
        rw [show (op == 3) = true from by simpa using h3] at e
        exact Ev.congr (fun k => by rw [if_neg h1, if_neg h2, show (op == 3) = true from by simpa using h3]) e
      · rw [if_neg (by rintro (h | h | h) <;> contradiction)]
        have e := j (op == 3)
        rw [show (op == 3) = false from by simpa using h3] at e
        exact Ev.congr (fun k => by rw [if_neg h1, if_neg h2, show (op == 3) = false from by simpa using h3]) e
theorem specExpr_l0 (xs : List S34) (hz : smallX xs) (d : Nat) : ∀ i : Nat, xs.length - i = d → i ≤ xs.length →
    Ev (fun k => spec_ExprOk.l0 k (i : Int) xs) (nodesB i (xs.drop i) && decide (1 ≤ (xs.length : Int) ∧ (xs.length : Int) ≤ 20)) := by
  have hl := hz.1
  induction d with
  | zero =>
    intro i hd hi
    refine Ev.shift 1 (f := fun _ => some _) (fun k => ?_) (Ev.now _)
    rw [spec_ExprOk.l0, if_neg (by omega), List.drop_eq_nil_of_le (by omega), l01In_is]; rfl
  | succ d ih =>
    intro i hd hi
    have hi2 : i < xs.length := by omega
    have e := ih (i + 1) (by omega) (by omega)
    have hy := hz.2 _ (List.getElem_mem hi2)
    rw [← w64_len hi2 (by omega)] at e
    have J := specExpr_j1 xs i xs[i].f0 xs[i].f1 xs[i].f2 xs[i].f3 _ (by omega) hy.2 hy.1 e
    rw [drop_get xs i hi2]
    refine Ev.shift 1 (f := fun k => (spec_l01In.f xs[i].f0 1 11).bind fun t => (if t = true then ((spec_l04Kids.f k xs[i].f0).bind fun t2 => (spec_ExprOk.j1 k (i : Int) (((xs[i].f3.length : Int)) != t2) xs xs[i].f0 xs[i].f1 xs[i].f2 xs[i].f3)) else (spec_ExprOk.j1 k (i : Int) true xs xs[i].f0 xs[i].f1 xs[i].f2 xs[i].f3))) (fun k => ?_) ?_
    · rw [spec_ExprOk.l0, if_pos (by omega), if_pos (by omega), rdE xs i hi2]
    · rw [l01In_is]
      simp only [Option.bind_some]
      have hgoal : (nodesB i (xs[i] :: xs.drop (i + 1)) && decide (1 ≤ (xs.length : Int) ∧ (xs.length : Int) ≤ 20)) = (if nodeB i xs[i] then nodesB (i + 1) (xs.drop (i + 1)) && decide (1 ≤ (xs.length : Int) ∧ (xs.length : Int) ≤ 20) else false) := by
        simp only [nodesB]; cases nodeB i xs[i] <;> simp
      rw [hgoal]
      by_cases hr : decide (1 ≤ xs[i].f0 ∧ xs[i].f0 ≤ 11) = true
      · refine Ev.congr (fun k => if_pos hr) (Ev.bind (specKids_ev _) ?_)
        have j := J ((xs[i].f3.length : Int) != kidsOf xs[i].f0)
        have hb : nodeB i xs[i] = (!((xs[i].f3.length : Int) != kidsOf xs[i].f0) && numOk xs[i].f0 xs[i].f1 && nameOk xs[i].f0 xs[i].f2 && kidsIn i xs[i].f3) := by
          unfold nodeB
          rw [hr, Bool.true_and]
          congr 3
          by_cases hq : (xs[i].f3.length : Int) = kidsOf xs[i].f0 <;> simp [hq]
        rw [hb]
        exact j
      · refine Ev.congr (fun k => if_neg hr) ?_
        have hb : nodeB i xs[i] = false := by unfold nodeB; rw [show decide (1 ≤ xs[i].f0 ∧ xs[i].f0 ≤ 11) = false from by simpa using hr]; simp
        rw [hb]
        exact J true
theorem specExprOk_ev (xs : List S34) (hz : smallX xs) : Ev (fun k => spec_ExprOk.f k xs) (exprOkB xs) :=
  specExpr_l0 xs hz xs.length 0 (by omega) (by omega)

/-! ### specEnvGet -/
theorem specEnvGet_l0 (xs : List S87) (s : ByteArray) (hl : xs.length ≤ 9223372036854775807) (d : Nat) : ∀ (k i : Nat), xs.length - i ≤ d → d < k → spec_EnvGet.l0 k xs s (i : Int) = some (envGetL s (xs.drop i)) := by
  induction d with
  | zero =>
    intro k i hd hk
    obtain ⟨k, rfl⟩ : ∃ m, k = m + 1 := ⟨k - 1, by omega⟩
    rw [spec_EnvGet.l0, if_neg (by omega), List.drop_eq_nil_of_le (by omega)]; rfl
  | succ d ih =>
    intro k i hd hk
    obtain ⟨k, rfl⟩ : ∃ m, k = m + 1 := ⟨k - 1, by omega⟩
    by_cases hi : i < xs.length
    · rw [spec_EnvGet.l0, if_pos (by omega), if_pos (by omega), rdI' xs i hi, w64_len hi hl, ih k (i + 1) (by omega) (by omega), drop_get xs i hi]
      simp only [envGetL]
      by_cases h : xs[i].f0 = s
      · rw [if_pos (toList_eq.2 h), if_pos h]
      · rw [if_neg (fun e => h (toList_eq.1 e)), if_neg h]
    · rw [spec_EnvGet.l0, if_neg (by omega), List.drop_eq_nil_of_le (by omega)]; rfl
theorem specEnvGet_is (xs : List S87) (s : ByteArray) (hl : xs.length ≤ 9223372036854775807) (k : Nat) (hk : xs.length < k) : spec_EnvGet.f k xs s = some (envGetL s xs) := by
  unfold spec_EnvGet.f
  exact specEnvGet_l0 xs s hl xs.length k 0 (by omega) hk

/-! ### specEval -/
theorem specMarks_l1 (xs : List S34) (hl : xs.length ≤ 20) (i : Nat) (hi : i < xs.length) (ks : List Int) (hks : xs[i].f3 = ks) (hr : ∀ c ∈ ks, 0 ≤ c ∧ c < (i : Int)) (hkl : ks.length ≤ 2) (r : Nat) : ∀ (k j : Nat) (m : List Bool), ks.length - j = r → j ≤ ks.length → m.length = xs.length → rdB m (i : Int) = true →
    spec_l04Marks.l1 (k + r + 1) m (i : Int) (j : Int) xs = spec_l04Marks.l0 k (markKids m (ks.drop j)) (wrap64 ((i : Int) - 1)) xs := by
  induction r with
  | zero =>
    intro k j m hd hj hm _
    rw [spec_l04Marks.l1, if_pos (by omega), if_pos (by omega), rdE xs i hi, hks, if_neg (by omega), List.drop_eq_nil_of_le (by omega)]; rfl
  | succ r ih =>
    intro k j m hd hj hm hb
    have hj2 : j < ks.length := by omega
    have hc := hr ks[j] (List.getElem_mem hj2)
    have e : rdOf false m (i : Int) = true := hb
    rw [show k + (r + 1) + 1 = (k + r + 1) + 1 from by omega, spec_l04Marks.l1, if_pos (by omega), if_pos (by omega), rdE xs i hi, hks, if_pos (by omega), if_pos (by omega), if_pos e, if_pos (by omega), rdInt ks j hj2, if_pos hc.1, if_pos (by omega), w64_len hj2 (by omega)]
    rw [ih k (j + 1) _ (by omega) (by omega) (by rw [List.length_set]; exact hm) (by rw [rdB_set_ne _ _ _ _ (by omega)]; exact hb), drop_get ks j hj2]
    rfl
theorem specMarks_l0 (xs : List S34) (ho : exprOkB xs = true) (n : Nat) : ∀ (m : List Bool), n ≤ xs.length → m.length = xs.length → Ev (fun k => spec_l04Marks.l0 k m ((n : Int) - 1) xs) (marksGo xs n m) := by
  have hp := expr_pos ho
  induction n with
  | zero =>
    intro m _ hm
    refine Ev.shift 1 (f := fun _ => some m) (fun k => ?_) (Ev.now _)
    rw [spec_l04Marks.l0, if_neg (by omega)]
  | succ n ih =>
    intro m hn hm
    have hi : n < xs.length := by omega
    have hf := node_facts ho n hi
    have hkl : xs[n].f3.length ≤ 2 := by have := hf.2.1; unfold kidsOf at this; split at this <;> (try split at this) <;> omega
    have e := ih (markStep xs m n) (by omega) (by rw [markStep_length]; exact hm)
    have ew : wrap64 ((n : Int) - 1) = (n : Int) - 1 := w64 (by omega) (by omega)
    by_cases hb : rdB m (n : Int) = true
    · have hs : markStep xs m n = markKids m xs[n].f3 := by unfold markStep; rw [if_pos hb]; simp [List.getD, List.getElem?_eq_getElem hi]
      rw [hs] at e
      show Ev _ (marksGo xs n (markStep xs m n))
      rw [hs]
      refine Ev.shift (xs[n].f3.length + 2) (fun k => ?_) e
      have l1 := specMarks_l1 xs hp.2 n hi _ rfl hf.2.2 hkl xs[n].f3.length k 0 m (by omega) (by omega) hm hb
      rw [List.drop_zero, ew] at l1
      rw [show k + (xs[n].f3.length + 2) = (k + xs[n].f3.length + 1) + 1 from by omega, spec_l04Marks.l0, if_pos (by omega), show ((n + 1 : Nat) : Int) - 1 = (n : Int) from by omega]
      exact l1
    · have hs : markStep xs m n = m := by unfold markStep; rw [if_neg hb]
      rw [hs] at e
      show Ev _ (marksGo xs n (markStep xs m n))
      rw [hs]
      refine Ev.shift 2 (fun k => ?_) e
      have hb' : ¬ rdOf false m (n : Int) = true := hb
      rw [show k + 2 = (k + 1) + 1 from rfl, spec_l04Marks.l0, if_pos (by omega), show ((n + 1 : Nat) : Int) - 1 = (n : Int) from by omega, spec_l04Marks.l1, if_pos (by omega), if_pos (by omega), rdE xs n hi]
      by_cases hj : (0 : Int) < (xs[n].f3.length : Int)
      · rw [if_pos hj, if_pos (by omega), if_neg hb', ew]
      · rw [if_neg hj, ew]
theorem specMarks_ev (xs : List S34) (ho : exprOkB xs = true) : Ev (fun k => spec_l04Marks.f k xs) (marksR xs) := by
  have hp := expr_pos ho
  have e := specMarks_l0 xs ho xs.length ((List.replicate xs.length false).set (xs.length - 1) true) (by omega) (by simp)
  refine Ev.congr (fun k => ?_) e
  unfold spec_l04Marks.f
  rw [if_pos (by omega), if_pos (by omega), Option.bind_some, show ((xs.length : Int)).toNat = xs.length from by omega, List.length_replicate, w64 (by omega) (by omega), if_pos (by omega), if_pos (by omega), show ((xs.length : Int) - 1).toNat = xs.length - 1 from by omega]
theorem specFlag_is (b : Bool) : spec_l04Flag.f b = some (flagR b) := by unfold spec_l04Flag.f flagR; split <;> rfl
theorem specTwo_is (op a b : Int) (h : 4 ≤ op ∧ op ≤ 10) : spec_l04Two.f op a b = some (reckonR op a b) := by
  unfold spec_l04Two.f reckonR
  simp only [specFlag_is, Option.bind_some]
  rcases (show op = 4 ∨ op = 5 ∨ op = 6 ∨ op = 7 ∨ op = 8 ∨ op = 9 ∨ op = 10 by omega) with rfl | rfl | rfl | rfl | rfl | rfl | rfl
  · simp
  · simp
  · simp
  · by_cases hb : b = 0 <;> simp [hb]
  · simp
  · simp
  · by_cases ha : a = 0
    · simp [ha]
    · have h1 : (a != 0) = true := bne_iff_ne.2 ha
      simp [ha, h1]
theorem specEval_l0 (xs : List S34) (hz : smallX xs) (ho : exprOkB xs = true) (env : List S87) (hel : env.length ≤ 1048576) (here : Int) (m : List Bool) (hm : m.length = xs.length) (d : Nat) : ∀ (i : Nat) (nums : List Int), xs.length - i = d → i ≤ xs.length → nums.length = xs.length →
    Ev (fun k => spec_EvalExpr.l0 k env here m nums (i : Int) xs) (evalGo env here m i nums (xs.drop i)) := by
  have hp := expr_pos ho
  induction d with
  | zero =>
    intro i nums hd hi hn
    refine Ev.shift 1 (f := fun _ => some (evalGo env here m i nums (xs.drop i))) (fun k => ?_) (Ev.now _)
    rw [spec_EvalExpr.l0, if_neg (by omega), w64 (by omega) (by omega), if_pos (by omega), if_pos (by omega), List.drop_eq_nil_of_le (by omega)]; rfl
  | succ d ih =>
    intro i nums hd hi hn
    have hi2 : i < xs.length := by omega
    have hf := node_facts ho i hi2
    have hen : Ev (fun k => spec_EnvGet.f k env xs[i].f2) (envGetL xs[i].f2 env) := Ev.from env.length (fun k hk => specEnvGet_is env _ (by omega) k hk)
    rw [drop_get xs i hi2]
    show Ev _ (if rdB m (i : Int) then (if (nodeVal env here nums xs[i]).2 && numB (nodeVal env here nums xs[i]).1 then evalGo env here m (i + 1) (nums.set i (nodeVal env here nums xs[i]).1) (xs.drop (i + 1)) else (0, false)) else evalGo env here m (i + 1) nums (xs.drop (i + 1)))
    by_cases hb : rdB m (i : Int) = true
    · rw [if_pos hb]
      have hb2 : rdOf false m (i : Int) = true := hb
      -- behind a value
      have next : ∀ v : Int, Ev (fun k => (spec_l01In.f v (-9999) 9999).bind fun t => (if t = true then (if (i : Int) < (nums.length : Int) then spec_EvalExpr.l0 k env here m (nums.set ((i : Int)).toNat v) (wrap64 ((i : Int) + 1)) xs else none) else some (0, false))) (if numB v then evalGo env here m (i + 1) (nums.set i v) (xs.drop (i + 1)) else (0, false)) := by
        intro v
        rw [l01In_is]
        simp only [Option.bind_some]
        by_cases hv : numB v = true
        · rw [if_pos hv]
          have e := ih (i + 1) (nums.set i v) (by omega) (by omega) (by rw [List.length_set]; exact hn)
          refine Ev.congr (fun k => ?_) e
          have hv2 : decide (-9999 ≤ v ∧ v ≤ 9999) = true := hv
          rw [if_pos hv2, if_pos (by omega), w64_len hi2 (by omega), show ((i : Int)).toNat = i from by omega]
        · rw [if_neg hv]
          exact Ev.congr (f := fun _ => some (0, false)) (fun k => if_neg hv) (Ev.now _)
      by_cases h1 : xs[i].f0 = 1
      · have hv : nodeVal env here nums xs[i] = (xs[i].f1, true) := by unfold nodeVal; rw [if_pos h1]
        rw [hv]
        refine Ev.shift 1 (fun k => ?_) (next xs[i].f1)
        rw [spec_EvalExpr.l0, if_pos (by omega), if_pos (by omega), if_pos (by omega), if_pos hb2, rdE xs i hi2, if_pos h1]
      by_cases h2 : xs[i].f0 = 2
      · have hv : nodeVal env here nums xs[i] = envGetL xs[i].f2 env := by unfold nodeVal; rw [if_neg h1, if_pos h2]
        rw [hv]
        refine Ev.shift 1 (f := fun k => (spec_EnvGet.f k env xs[i].f2).bind fun bt => (if bt.2 = true then ((spec_l01In.f bt.1 (-9999) 9999).bind fun t => (if t = true then (if (i : Int) < (nums.length : Int) then spec_EvalExpr.l0 k env here m (nums.set ((i : Int)).toNat bt.1) (wrap64 ((i : Int) + 1)) xs else none) else some (0, false))) else some (0, false))) (fun k => ?_) ?_
        · rw [spec_EvalExpr.l0, if_pos (by omega), if_pos (by omega), if_pos (by omega), if_pos hb2, rdE xs i hi2, if_neg h1, if_pos h2]
        · refine Ev.bind hen ?_
          by_cases hg : (envGetL xs[i].f2 env).2 = true
          · rw [hg, Bool.true_and]
            exact Ev.congr (fun k => if_pos rfl) (next _)
          · rw [show (envGetL xs[i].f2 env).2 = false from by simpa using hg, Bool.false_and]
            exact Ev.congr (f := fun _ => some (0, false)) (fun k => if_neg (by simp)) (Ev.now _)
      by_cases h3 : xs[i].f0 = 3
      · have hv : nodeVal env here nums xs[i] = (here, true) := by unfold nodeVal; rw [if_neg h1, if_neg h2, if_pos h3]
        rw [hv]
        refine Ev.shift 1 (fun k => ?_) (next here)
        rw [spec_EvalExpr.l0, if_pos (by omega), if_pos (by omega), if_pos (by omega), if_pos hb2, rdE xs i hi2, if_neg h1, if_neg h2, if_pos h3]
      have hv : nodeVal env here nums xs[i] = reckonR xs[i].f0 (rd nums (rd xs[i].f3 0)) (rd nums (rd xs[i].f3 ((xs[i].f3.length : Int) - 1))) := by unfold nodeVal; rw [if_neg h1, if_neg h2, if_neg h3]
      by_cases h11 : xs[i].f0 = 11
      · have hk : (xs[i].f3.length : Int) = 1 := by rw [hf.2.1]; unfold kidsOf; rw [if_neg (by omega), if_pos h11]
        have hc := hf.2.2 _ (rd_in xs[i].f3 0 (by omega) (by omega))
        have hr : reckonR xs[i].f0 (rd nums (rd xs[i].f3 0)) (rd nums (rd xs[i].f3 ((xs[i].f3.length : Int) - 1))) = (flagR (rd nums (rd xs[i].f3 0) == 0), true) := by
          unfold reckonR
          rw [if_neg (by omega), if_neg (by omega), if_neg (by omega), if_neg (by omega), if_neg (by omega), if_neg (by omega), if_pos h11]
        rw [hv, hr]
        have hfl : spec_l04Flag.f (rd nums (rd xs[i].f3 0) == 0) = some (flagR (rd nums (rd xs[i].f3 0) == 0)) := by unfold spec_l04Flag.f flagR; split <;> rfl
        refine Ev.shift 1 (fun k => ?_) (next (flagR (rd nums (rd xs[i].f3 0) == 0)))
        rw [spec_EvalExpr.l0, if_pos (by omega), if_pos (by omega), if_pos (by omega), if_pos hb2, rdE xs i hi2, if_neg h1, if_neg h2, if_neg h3, if_pos h11, if_pos (by omega), if_pos hc.1, if_pos (by omega), hfl, Option.bind_some]
      · have hk : (xs[i].f3.length : Int) = 2 := by rw [hf.2.1]; unfold kidsOf; rw [if_neg (by omega), if_neg h11]
        have hc := hf.2.2 _ (rd_in xs[i].f3 0 (by omega) (by omega))
        have hc1 := hf.2.2 _ (rd_in xs[i].f3 1 (by omega) (by omega))
        rw [hv, hk, show (2 : Int) - 1 = 1 from rfl]
        have ht := specTwo_is xs[i].f0 (rd nums (rd xs[i].f3 0)) (rd nums (rd xs[i].f3 1)) (by omega)
        by_cases hg : (reckonR xs[i].f0 (rd nums (rd xs[i].f3 0)) (rd nums (rd xs[i].f3 1))).2 = true
        · rw [hg, Bool.true_and]
          refine Ev.shift 1 (fun k => ?_) (next _)
          rw [spec_EvalExpr.l0, if_pos (by omega), if_pos (by omega), if_pos (by omega), if_pos hb2, rdE xs i hi2, if_neg h1, if_neg h2, if_neg h3, if_neg h11, if_pos (by omega), if_pos hc.1, if_pos (by omega), if_pos (by omega), if_pos hc1.1, if_pos (by omega), ht, Option.bind_some, if_pos hg]
        · rw [show (reckonR xs[i].f0 (rd nums (rd xs[i].f3 0)) (rd nums (rd xs[i].f3 1))).2 = false from by simpa using hg, Bool.false_and]
          refine Ev.shift 1 (f := fun _ => some (0, false)) (fun k => ?_) (Ev.now _)
          rw [spec_EvalExpr.l0, if_pos (by omega), if_pos (by omega), if_pos (by omega), if_pos hb2, rdE xs i hi2, if_neg h1, if_neg h2, if_neg h3, if_neg h11, if_pos (by omega), if_pos hc.1, if_pos (by omega), if_pos (by omega), if_pos hc1.1, if_pos (by omega), ht, Option.bind_some, if_neg hg]
    · rw [if_neg hb]
      have hb2 : ¬ rdOf false m (i : Int) = true := hb
      have e := ih (i + 1) nums (by omega) (by omega) hn
      refine Ev.shift 1 (fun k => ?_) e
      rw [spec_EvalExpr.l0, if_pos (by omega), if_pos (by omega), if_pos (by omega), if_neg hb2, w64_len hi2 (by omega)]
theorem specEvalExpr_ev (xs : List S34) (hz : smallX xs) (env : List S87) (hel : env.length ≤ 1048576) (here : Int) : Ev (fun k => spec_EvalExpr.f k xs env here) (evalR xs env here) := by
  unfold spec_EvalExpr.f evalR
  refine Ev.bind (specExprOk_ev xs hz) ?_
  by_cases ho : exprOkB xs = true
  · have hp := expr_pos ho
    rw [if_pos ho]
    refine Ev.congr (fun k => if_pos ho) (Ev.bind (specMarks_ev xs ho) ?_)
    have e := specEval_l0 xs hz ho env hel here (marksR xs) (marksR_length xs) xs.length 0 (List.replicate xs.length 0) (by omega) (by omega) (by simp)
    refine Ev.congr (fun k => ?_) e
    rw [if_pos (by omega), if_pos (by omega), show ((xs.length : Int)).toNat = xs.length from by omega]; rfl
  · rw [if_neg ho]
    exact Ev.congr (f := fun _ => some (0, false)) (fun k => if_neg ho) (Ev.now _)

/-! ### FnExprs -/
theorem pairO_some {o : Option Int} {r : Int × Bool} (h : pairO o = r) (h2 : r.2 = true) : o = some r.1 := by
  cases o with
  | none => rw [← h] at h2; cases h2
  | some v => rw [← h]; rfl
theorem fit_num {n : Int} (h : -9999 ≤ n ∧ n ≤ 9999) : fitR n = some n := by
  unfold fitR numB
  rw [if_pos (decide_eq_true h)]
theorem envGet_num (vs : List S87) (h : ∀ v ∈ vs, okV v = true) (s : ByteArray) (hs : (envGetL s vs).2 = true) : numB (envGetL s vs).1 = true := by
  induction vs with
  | nil => cases hs
  | cons v vs ih =>
    have e : envGetL s (v :: vs) = if v.f0 = s then (v.f1, true) else envGetL s vs := rfl
    rw [e] at hs ⊢
    by_cases c : v.f0 = s
    · rw [if_pos c]
      have := h v (List.mem_cons_self ..)
      unfold okV at this
      rw [Bool.and_eq_true] at this
      exact this.2
    · rw [if_neg c] at hs ⊢
      exact ih (fun w hw => h w (List.mem_cons_of_mem _ hw)) hs
theorem envGet_none2 (vs : List S87) (s : ByteArray) (hs : ¬ (envGetL s vs).2 = true) : envGetL s vs = (0, false) := by
  induction vs with
  | nil => rfl
  | cons v vs ih =>
    have e : envGetL s (v :: vs) = if v.f0 = s then (v.f1, true) else envGetL s vs := rfl
    rw [e] at hs ⊢
    by_cases c : v.f0 = s
    · rw [if_pos c] at hs; exact absurd rfl hs
    · rw [if_neg c] at hs ⊢; exact ih hs
section
variable {env : List S87} {here : Int} {xs : List S34}
/-- The last node's number by those of its kids. -/
theorem last_is (ho : exprOkB xs = true) (y : S34) (hy : xs[xs.length - 1]? = some y) : evalR xs env here = pairO (nvR env here (valsR env here xs) y) ∧ (1 ≤ y.f0 ∧ y.f0 ≤ 11) ∧ (y.f3.length : Int) = kidsOf y.f0 ∧ numOk y.f0 y.f1 = true ∧ ∀ c ∈ y.f3, 0 ≤ c ∧ c < ((xs.length - 1 : Nat) : Int) := by
  have hp := expr_pos ho
  have hlt : xs.length - 1 < xs.length := by omega
  have e : xs[xs.length - 1] = y := by rw [List.getElem?_eq_getElem hlt] at hy; exact Option.some.inj hy
  have hf := node_facts ho (xs.length - 1) hlt
  have hn : numOk y.f0 y.f1 = true := by
    have h1 : nodesB 0 xs = true := by
      have h := ho
      unfold exprOkB at h
      rw [Bool.and_eq_true] at h
      exact h.1
    have h2 := nodesB_at xs 0 h1 _ hlt
    rw [e] at h2
    unfold nodeB at h2
    simp only [Bool.and_eq_true] at h2
    exact h2.1.1.2
  rw [e] at hf
  refine ⟨?_, hf.1, hf.2.1, hn, hf.2.2⟩
  rw [evalR_vals ho]
  congr 1
  have e1 : atO (valsR env here xs) ((xs.length - 1 : Nat) : Int) = nvR env here (valsR env here (xs.take (xs.length - 1))) y := by
    unfold atO
    rw [List.getD_eq_getElem?_getD, Int.toNat_natCast, valsR_at env here xs _ hlt, e]
    rfl
  rw [e1]
  unfold nvR
  by_cases h1 : y.f0 = 1
  · rw [if_pos h1, if_pos h1]
  by_cases h2 : y.f0 = 2
  · rw [if_neg h1, if_neg h1, if_pos h2, if_pos h2]
  by_cases h3 : y.f0 = 3
  · rw [if_neg h1, if_neg h1, if_neg h2, if_neg h2, if_pos h3, if_pos h3]
  have hk1 : 1 ≤ (y.f3.length : Int) := by rw [hf.2.1]; unfold kidsOf; rw [if_neg (by omega)]; split <;> omega
  have m0 := rd_in y.f3 0 (by omega) (by omega)
  have m1 := rd_in y.f3 ((y.f3.length : Int) - 1) (by omega) (by omega)
  have c0 := hf.2.2 _ m0
  have c1 := hf.2.2 _ m1
  rw [if_neg h1, if_neg h1, if_neg h2, if_neg h2, if_neg h3, if_neg h3, atO_take env here xs _ (by omega) _ c0.1 c0.2, atO_take env here xs _ (by omega) _ c1.1 c1.2]
/-- A kid without a number: neither has the whole. -/
theorem kid_none (y : S34) (vals : List (Option Int)) (hkl : (y.f3.length : Int) = kidsOf y.f0) (c : Int) (hc : c ∈ y.f3) (hv : atO vals c = none) : nvR env here vals y = none := by
  have hop : ¬ y.f0 = 1 ∧ ¬ y.f0 = 2 ∧ ¬ y.f0 = 3 := by
    have h0 : 0 < y.f3.length := List.length_pos_of_mem hc
    unfold kidsOf at hkl
    split at hkl
    · omega
    · rename_i h; omega
  have hl2 : (y.f3.length : Int) ≤ 2 := by rw [hkl]; unfold kidsOf; split <;> (try split) <;> omega
  unfold nvR
  rw [if_neg hop.1, if_neg hop.2.1, if_neg hop.2.2]
  obtain ⟨n, hn, rfl⟩ := List.getElem_of_mem hc
  by_cases h0 : n = 0
  · subst h0
    rw [show rd y.f3 0 = y.f3[0] from rdInt y.f3 0 hn, hv]; rfl
  · have e : rd y.f3 ((y.f3.length : Int) - 1) = y.f3[n] := by
      rw [show (y.f3.length : Int) - 1 = (n : Int) from by omega]
      exact rdInt y.f3 n hn
    rw [e, hv]
    cases atO vals (rd y.f3 0) <;> rfl
end
/-- The kids' numbers are read one by one. -/
theorem fnExprs_l0 (vs : List S87) (hvl : vs.length ≤ 1048576) (here : Int) (xs : List S34) (ho : exprOkB xs = true) (hs : Small7 xs) (y : S34) (hy : xs[xs.length - 1]? = some y)
    (fin : ∀ nums : List Int, nums.length = y.f3.length → (∀ j, (h : j < y.f3.length) → atO (valsR vs here xs) y.f3[j] = some (rd nums (j : Int))) → Ev (fun k => laws_FnExprs.l0 (k + 1) vs here (evalR xs vs here).1 (evalR xs vs here).2 nums (y.f3.length : Int) xs y.f0 y.f1 y.f2 y.f3) true) (d : Nat) : ∀ (i : Nat) (nums : List Int), y.f3.length - i = d → i ≤ y.f3.length → nums.length = i →
    (∀ j, (h : j < i) → ∀ h2 : j < y.f3.length, atO (valsR vs here xs) y.f3[j] = some (rd nums (j : Int))) →
    Ev (fun k => laws_FnExprs.l0 k vs here (evalR xs vs here).1 (evalR xs vs here).2 nums (i : Int) xs y.f0 y.f1 y.f2 y.f3) true := by
  obtain ⟨eL, hop, hkl, hnum, hkid⟩ := last_is (env := vs) (here := here) ho y hy
  have hl2 : (y.f3.length : Int) ≤ 2 := by rw [hkl]; unfold kidsOf; split <;> (try split) <;> omega
  have hlen := hs.1
  induction d with
  | zero =>
    intro i nums hd hi hn hv
    have e : i = y.f3.length := by omega
    subst e
    exact Ev.shift 1 (fun k => rfl) (fin nums hn (fun j h => hv j h h))
  | succ d ih =>
    intro i nums hd hi hn hv
    have hlt : i < y.f3.length := by omega
    have hm : y.f3[i] ∈ y.f3 := List.getElem_mem hlt
    have hc := hkid _ hm
    have hr : rd y.f3 (i : Int) = y.f3[i] := rdInt y.f3 i hlt
    have hsz : smallX (xs.take (y.f3[i].toNat + 1)) := by
      have h := hs.x
      exact ⟨by rw [List.length_take]; omega, fun z hz => h.2 z (List.mem_of_mem_take hz)⟩
    have eP := implEvalExpr_ev _ hsz vs hvl here
    rw [evalR_part ho y.f3[i].toNat (by omega), show ((y.f3[i].toNat : Nat) : Int) = y.f3[i] from by omega] at eP
    have hw : wrap64 (y.f3[i] + 1) = y.f3[i] + 1 := w64 (by omega) (by omega)
    refine Ev.shift 1 (f := fun k => (impl_EvalExpr.f k (xs.take (y.f3[i].toNat + 1)) vs here).bind fun t => if t.2 = true then (if nums.length < 17592186044416 then laws_FnExprs.l0 k vs here (evalR xs vs here).1 (evalR xs vs here).2 (nums ++ [t.1]) (wrap64 ((i : Int) + 1)) xs y.f0 y.f1 y.f2 y.f3 else none) else some (!(evalR xs vs here).2)) (fun k => ?_) (Ev.bind eP ?_)
    · rw [laws_FnExprs.l0, if_pos (by omega), if_pos (by omega), hr, hw, if_pos (by omega), if_pos (by omega), show (y.f3[i] + 1).toNat = y.f3[i].toNat + 1 from by omega]
    · cases hv2 : atO (valsR vs here xs) y.f3[i] with
      | none =>
        have e0 : evalR xs vs here = (0, false) := by rw [eL, kid_none y _ hkl _ hm hv2]; rfl
        rw [e0]
        exact Ev.congr (f := fun _ => some true) (fun k => if_neg (by simp [pairO])) (Ev.now _)
      | some v =>
        refine Ev.congr (fun k => by rw [show pairO (some v) = (v, true) from rfl, if_pos rfl, if_pos (by omega), w64 (by omega) (by omega), show ((i : Int) + 1) = ((i + 1 : Nat) : Int) from by omega]) (ih (i + 1) (nums ++ [v]) (by omega) (by omega) (by simp; omega) (fun j h h2 => ?_))
        by_cases e : j < i
        · rw [hv j e h2]
          congr 1
          unfold rd
          rw [List.getD_eq_getElem?_getD, List.getD_eq_getElem?_getD, Int.toNat_natCast, List.getElem?_append_left (by omega)]
        · have e2 : j = i := by omega
          subst e2
          rw [hv2]
          congr 1
          unfold rd
          rw [List.getD_eq_getElem?_getD, Int.toNat_natCast, List.getElem?_append_right (by omega), hn, Nat.sub_self]
          rfl
theorem FnExprs : laws_FnExprs.Pure := by
  intro l hl hsz hw
  have hb : l.length ≤ 140737488351232 := by omega
  refine Ev.rounds (r := true) ?_
  unfold laws_FnExprs.f laws_FnExprs.f0 laws_big.f
  obtain ⟨xs, eX, ho, hl7⟩ := drawExpr_ev l hb
  have hs := okB_small ho hl7
  have hpos := expr_pos ho
  refine Ev.bind eX ?_
  by_cases hbig : decide ((l.length : Int) > 1048576) = true
  · exact Ev.congr (f := fun _ => some true) (fun k => by rw [Option.bind_some, if_pos hbig]) (Ev.now _)
  obtain ⟨vs, e2, hv⟩ := drawEnv_is l hb 8000011 (by omega)
  have eV : Ev (fun k => spec_DrawEnv.f k l) vs := Ev.of (spec_DrawEnv.mono l) e2
  have hvl := hv.len
  obtain ⟨p, e3, hp, hpr⟩ := drawPlaces_is l hb 4001 (by omega)
  have eP : Ev (fun k => spec_DrawPlaces.f k l) p := Ev.of (spec_DrawPlaces.mono l) e3
  have h0 : 0 ≤ rd p 0 ∧ rd p 0 < 10000 := hpr _ (by unfold rd; rw [List.getD_eq_getElem?_getD, List.getElem?_eq_getElem (by omega), Option.getD_some]; exact List.getElem_mem _)
  have t0 : 0 ≤ Int.tmod (rd p 0) 12 ∧ Int.tmod (rd p 0) 12 ≤ 11 := by rw [tmod_e h0.1]; omega
  generalize hh : Int.tmod (rd p 0) 12 = here at t0
  have hlt : xs.length - 1 < xs.length := by omega
  obtain ⟨y, hy⟩ : ∃ y, xs[xs.length - 1]? = some y := ⟨_, List.getElem?_eq_getElem hlt⟩
  have hyr : rd_T34 xs ((xs.length : Int) - 1) = y := by
    rw [show (xs.length : Int) - 1 = ((xs.length - 1 : Nat) : Int) from by omega, rdE xs _ hlt]
    rw [List.getElem?_eq_getElem hlt] at hy
    exact Option.some.inj hy
  have eO : Ev (fun k => impl_ExprOk.f k xs) true := ho ▸ Ev.from (xs.length + 1048578) (implExprOk_is xs hs.x)
  obtain ⟨eL, hop, hkl, hnum, hkid⟩ := last_is (env := vs) (here := here) ho y hy
  have hl2 : (y.f3.length : Int) ≤ 2 := by rw [hkl]; unfold kidsOf; split <;> (try split) <;> omega
  refine Ev.congr (fun k => by rw [Option.bind_some, if_neg hbig]) (Ev.bind eV (Ev.bind eP ?_))
  refine Ev.congr (fun k => by rw [if_pos (show 0 < (p.length : Int) by omega), hh]) (Ev.bind (implEvalExpr_ev xs hs.x vs (by omega) here) (Ev.bind (specEvalExpr_ev xs hs.x vs (by omega) here) ?_))
  refine Ev.congr (fun k => by rw [w64 (n := (xs.length : Int) - 1) (by omega) (by omega), if_pos (by omega), if_pos (by omega), hyr, show ((evalR xs vs here).2 != (evalR xs vs here).2) = false from by cases (evalR xs vs here).2 <;> rfl, if_neg (by simp), if_pos rfl]) (Ev.bind eO ?_)
  refine Ev.shift 1 (f := fun k => laws_FnExprs.l0 k vs here (evalR xs vs here).1 (evalR xs vs here).2 [] 0 xs y.f0 y.f1 y.f2 y.f3) (fun k => by rw [laws_FnExprs.j0, if_neg (by simp)]) ?_
  refine fnExprs_l0 vs (by omega) here xs ho hs y hy (fun nums hn hv2 => ?_) y.f3.length 0 [] (by omega) (by omega) rfl (fun j h => absurd h (Nat.not_lt_zero _))
  -- the end
  have k0 : y.f3.length = 1 ∨ y.f3.length = 2 → atO (valsR vs here xs) (rd y.f3 0) = some (rd nums 0) := fun h => by
    have := hv2 0 (by omega)
    rwa [show y.f3[0] = rd y.f3 0 from (rdInt y.f3 0 (by omega)).symm] at this
  have k1 : y.f3.length = 1 ∨ y.f3.length = 2 → atO (valsR vs here xs) (rd y.f3 ((y.f3.length : Int) - 1)) = some (rd nums ((y.f3.length : Int) - 1)) := fun h => by
    have := hv2 (y.f3.length - 1) (by omega)
    rwa [show y.f3[y.f3.length - 1] = rd y.f3 ((y.f3.length : Int) - 1) from by rw [show (y.f3.length : Int) - 1 = ((y.f3.length - 1 : Nat) : Int) from by omega]; exact (rdInt y.f3 _ (by omega)).symm, show ((y.f3.length - 1 : Nat) : Int) = (y.f3.length : Int) - 1 from by omega] at this
  have step : ∀ (g : Nat → Option Bool), (∀ k, laws_FnExprs.l0 (k + 1) vs here (evalR xs vs here).1 (evalR xs vs here).2 nums (y.f3.length : Int) xs y.f0 y.f1 y.f2 y.f3 = g k) → Ev g true → Ev (fun k => laws_FnExprs.l0 (k + 1) vs here (evalR xs vs here).1 (evalR xs vs here).2 nums (y.f3.length : Int) xs y.f0 y.f1 y.f2 y.f3) true := fun g h e => Ev.congr h e
  have now : (∀ k, laws_FnExprs.l0 (k + 1) vs here (evalR xs vs here).1 (evalR xs vs here).2 nums (y.f3.length : Int) xs y.f0 y.f1 y.f2 y.f3 = some true) → Ev (fun k => laws_FnExprs.l0 (k + 1) vs here (evalR xs vs here).1 (evalR xs vs here).2 nums (y.f3.length : Int) xs y.f0 y.f1 y.f2 y.f3) true := fun h => step (fun _ => some true) h (Ev.now _)
  by_cases o1 : y.f0 = 1
  · have hf : 0 ≤ y.f1 ∧ y.f1 ≤ 99 := by unfold numOk at hnum; rw [if_pos o1] at hnum; exact of_decide_eq_true hnum
    have e : evalR xs vs here = (y.f1, true) := by rw [eL]; unfold nvR; rw [if_pos o1, fit_num (by omega)]; rfl
    refine now fun k => ?_
    rw [laws_FnExprs.l0, if_neg (by omega), if_pos o1, e, if_pos rfl]
    simp
  by_cases o3 : y.f0 = 3
  · have e : evalR xs vs here = (here, true) := by rw [eL]; unfold nvR; rw [if_neg o1, if_neg (by omega), if_pos o3, fit_num (by omega)]; rfl
    refine now fun k => ?_
    rw [laws_FnExprs.l0, if_neg (by omega), if_neg o1, if_pos o3, e, if_pos rfl]
    simp
  by_cases o2 : y.f0 = 2
  · have eG := Ev.from (g := fun k => spec_EnvGet.f k vs y.f2) vs.length (fun k hk => specEnvGet_is vs y.f2 (by omega) k hk)
    have e : evalR xs vs here = envGetL y.f2 vs := by
      rw [eL]; unfold nvR; rw [if_neg o1, if_pos o2]
      by_cases c : (envGetL y.f2 vs).2 = true
      · have hn2 := envGet_num vs hv.good.all y.f2 c
        rw [if_pos c]
        unfold fitR
        rw [if_pos hn2]
        exact Prod.ext rfl c.symm
      · rw [if_neg c, envGet_none2 vs y.f2 c]; rfl
    refine step _ (fun k => ?_) (Ev.bind (f := fun k t => if ((envGetL y.f2 vs).2 == t.2) = true then some ((envGetL y.f2 vs).1 == t.1) else none) eG (Ev.congr (f := fun _ => some true) (fun k => ?_) (Ev.now _)))
    · rw [laws_FnExprs.l0, if_neg (by omega), if_neg o1, if_neg o3, if_neg (by omega), if_neg (by omega), if_neg (by omega), if_neg (by omega), if_neg (by omega), if_pos o2, e]
    · rw [if_pos (by simp)]; simp
  -- with kids
  have hkn : y.f3.length = 1 ∨ y.f3.length = 2 := by unfold kidsOf at hkl; rw [if_neg (by omega)] at hkl; split at hkl <;> omega
  have eN : evalR xs vs here = pairO (if (reckonR y.f0 (rd nums 0) (rd nums ((y.f3.length : Int) - 1))).2 = true then fitR (reckonR y.f0 (rd nums 0) (rd nums ((y.f3.length : Int) - 1))).1 else none) := by
    rw [eL]; unfold nvR; rw [if_neg o1, if_neg o2, if_neg o3, k0 hkn, k1 hkn]; rfl
  by_cases o11 : y.f0 = 11
  · have hk1 : (y.f3.length : Int) = 1 := by rw [hkl]; unfold kidsOf; rw [if_neg (by omega), if_pos o11]
    have hfl : -9999 ≤ flagR (rd nums 0 == 0) ∧ flagR (rd nums 0 == 0) ≤ 9999 := by unfold flagR; split <;> omega
    have e : evalR xs vs here = (flagR (rd nums 0 == 0), true) := by
      have hr : reckonR y.f0 (rd nums 0) (rd nums ((y.f3.length : Int) - 1)) = (flagR (rd nums 0 == 0), true) := by
        unfold reckonR
        rw [if_neg (by omega), if_neg (by omega), if_neg (by omega), if_neg (by omega), if_neg (by omega), if_neg (by omega), if_pos o11]
      rw [eN, hr, if_pos rfl, fit_num hfl]; rfl
    refine now fun k => ?_
    rw [laws_FnExprs.l0, if_neg (by omega), if_neg o1, if_neg o3, if_neg (by omega), if_neg (by omega), if_neg (by omega), if_neg (by omega), if_pos o11, e, if_pos rfl, if_pos (by omega)]
    cases h : (rd nums 0 == 0) <;> simp [flagR]
  have hk2 : (y.f3.length : Int) = 2 := by rw [hkl]; unfold kidsOf; rw [if_neg (by omega), if_neg o11]
  rw [hk2, show (2 : Int) - 1 = 1 from rfl] at eN
  have hnl : (nums.length : Int) = 2 := by rw [hn]; exact hk2
  -- what is told of three operations
  have three : ∀ v : Int, reckonR y.f0 (rd nums 0) (rd nums 1) = (v, true) → (evalR xs vs here).2 = true → (evalR xs vs here).1 = v := fun v hv3 h => by
    rw [eN, hv3] at h ⊢
    rw [if_pos rfl] at h ⊢
    unfold fitR at h ⊢
    by_cases c : numB v = true
    · rw [if_pos c]; rfl
    · rw [if_neg c] at h; cases h
  by_cases o4 : y.f0 = 4
  · have hr : reckonR y.f0 (rd nums 0) (rd nums 1) = (wrap64 (rd nums 0 + rd nums 1), true) := by unfold reckonR; rw [if_pos o4]
    refine now fun k => ?_
    rw [laws_FnExprs.l0, if_neg (by omega), if_neg o1, if_neg o3, if_pos o4]
    by_cases c : (evalR xs vs here).2 = true
    · rw [if_pos c, if_pos (by omega), if_pos (by omega), three _ hr c]; simp
    · rw [if_neg c]
  by_cases o5 : y.f0 = 5
  · have hr : reckonR y.f0 (rd nums 0) (rd nums 1) = (wrap64 (rd nums 0 - rd nums 1), true) := by unfold reckonR; rw [if_neg o4, if_pos o5]
    refine now fun k => ?_
    rw [laws_FnExprs.l0, if_neg (by omega), if_neg o1, if_neg o3, if_neg o4, if_pos o5]
    by_cases c : (evalR xs vs here).2 = true
    · rw [if_pos c, if_pos (by omega), if_pos (by omega), three _ hr c]; simp
    · rw [if_neg c]
  by_cases o6 : y.f0 = 6
  · have hr : reckonR y.f0 (rd nums 0) (rd nums 1) = (wrap64 (rd nums 0 * rd nums 1), true) := by unfold reckonR; rw [if_neg o4, if_neg o5, if_pos o6]
    refine now fun k => ?_
    rw [laws_FnExprs.l0, if_neg (by omega), if_neg o1, if_neg o3, if_neg o4, if_neg o5, if_pos o6]
    by_cases c : (evalR xs vs here).2 = true
    · rw [if_pos c, if_pos (by omega), if_pos (by omega), three _ hr c]; simp
    · rw [if_neg c]
  -- the kids' numbers are numbers
  have num1 : ∀ j, (h : j < y.f3.length) → numB (rd nums (j : Int)) = true := fun j h => by
    have h1 := hv2 j h
    have h2 := hkid _ (List.getElem_mem h)
    have h3 := evalR_part (env := vs) (here := here) ho y.f3[j].toNat (by omega)
    have h4 : atO (valsR vs here xs) y.f3[j] = nvR vs here (valsR vs here (xs.take y.f3[j].toNat)) (xs[y.f3[j].toNat]'(by omega)) := by
      unfold atO
      rw [List.getD_eq_getElem?_getD, valsR_at vs here xs _ (by omega)]
      rfl
    rw [h4] at h1
    have fitn : ∀ a b : Int, fitR a = some b → numB b = true := fun a b hab => by
      unfold fitR at hab
      by_cases c : numB a = true
      · rw [if_pos c] at hab; obtain rfl := Option.some.inj hab; exact c
      · rw [if_neg c] at hab; cases hab
    unfold nvR at h1
    split at h1
    · exact fitn _ _ h1
    split at h1
    · split at h1
      · exact fitn _ _ h1
      · cases h1
    split at h1
    · exact fitn _ _ h1
    obtain ⟨a, ha, h5⟩ := Option.bind_eq_some_iff.1 h1
    obtain ⟨b, hb2, h6⟩ := Option.bind_eq_some_iff.1 h5
    split at h6
    · exact fitn _ _ h6
    · cases h6
  by_cases o7 : y.f0 = 7
  · have ha := num1 0 (by omega)
    have ha' : -9999 ≤ rd nums 0 ∧ rd nums 0 ≤ 9999 := by unfold numB at ha; exact of_decide_eq_true ha
    refine now fun k => ?_
    by_cases hz : rd nums 1 = 0
    · have hr : reckonR y.f0 (rd nums 0) (rd nums 1) = (0, false) := by
        unfold reckonR; rw [if_neg o4, if_neg o5, if_neg o6, if_neg (by omega), if_neg (by omega), if_neg (by omega), if_neg o11, if_pos hz]
      have e : evalR xs vs here = (0, false) := by rw [eN, hr]; rfl
      rw [laws_FnExprs.l0, if_neg (by omega), if_neg o1, if_neg o3, if_neg o4, if_neg o5, if_neg o6, if_pos o7, if_pos (by omega), e, hz, if_pos (by rfl), if_neg (by simp)]
    · have hq : -9999 ≤ Int.tdiv (rd nums 0) (rd nums 1) ∧ Int.tdiv (rd nums 0) (rd nums 1) ≤ 9999 := by
        have h1 := Int.natAbs_tdiv (rd nums 0) (rd nums 1)
        have h2 : (Int.tdiv (rd nums 0) (rd nums 1)).natAbs ≤ (rd nums 0).natAbs := h1 ▸ Nat.div_le_self (rd nums 0).natAbs (rd nums 1).natAbs
        omega
      have hr : reckonR y.f0 (rd nums 0) (rd nums 1) = (wrap64 (Int.tdiv (rd nums 0) (rd nums 1)), true) := by
        unfold reckonR; rw [if_neg o4, if_neg o5, if_neg o6, if_neg (by omega), if_neg (by omega), if_neg (by omega), if_neg o11, if_neg hz]
      have e : evalR xs vs here = (wrap64 (Int.tdiv (rd nums 0) (rd nums 1)), true) := by rw [eN, hr, if_pos rfl, fit_num (by rw [w64 (by omega) (by omega)]; exact hq)]; rfl
      rw [laws_FnExprs.l0, if_neg (by omega), if_neg o1, if_neg o3, if_neg o4, if_neg o5, if_neg o6, if_pos o7, if_pos (by omega), e, show (rd nums 1 != 0) = true from bne_iff_ne.2 hz, if_pos (by rfl), if_pos rfl, if_pos (by omega), if_neg hz]
      simp
  have fl : ∃ b : Bool, reckonR y.f0 (rd nums 0) (rd nums 1) = (flagR b, true) := by
    unfold reckonR
    rw [if_neg o4, if_neg o5, if_neg o6]
    by_cases o8 : y.f0 = 8
    · rw [if_pos o8]; exact ⟨_, rfl⟩
    by_cases o9 : y.f0 = 9
    · rw [if_neg o8, if_pos o9]; exact ⟨_, rfl⟩
    · rw [if_neg o8, if_neg o9, if_pos (by omega)]; exact ⟨_, rfl⟩
  obtain ⟨b, hb2⟩ := fl
  have e : evalR xs vs here = (flagR b, true) := by rw [eN, hb2, if_pos rfl, fit_num (by unfold flagR; split <;> omega)]; rfl
  refine now fun k => ?_
  rw [laws_FnExprs.l0, if_neg (by omega), if_neg o1, if_neg o3, if_neg o4, if_neg o5, if_neg o6, if_neg o7, if_neg o11, if_neg o2, e, if_pos rfl]
  cases b <;> simp [flagR]

end Go.Proofs.Ytnmhggdaccbbfaa.Pure
