/- FnExactUnsealed without Go: at every string the program's Unsealed and the reference's answer the same. -/
import Derived.Test.YtigibdkgimgknaaPFnExactUnsealedx2
import Derived.Laws.BitsAllLaws
set_option linter.unusedVariables false
set_option linter.unusedSimpArgs false
set_option maxHeartbeats 400000
namespace Go.Proofs.Ytigibdkgimgknaa.Pure
open Go.RowKit Go.Proofs.Ytigibdkgimgknaa.PFnExactUnsealed Go.Proofs.YtigibdkgimgknaaW.PrintWords Go.Proofs.YtigibdkgimgknaaW.PrintLast
/-! ### base -/
theorem w64 {n : Int} (h : -9223372036854775808 ≤ n) (h' : n ≤ 9223372036854775807) : wrap64 n = n := by unfold wrap64; omega
theorem w64_succ {i m : Nat} (h : i < m) (hm : m ≤ 140737488351232) : wrap64 ((i : Int) + 1) = ((i + 1 : Nat) : Int) := by
  rw [w64 (by omega) (by omega)]; omega
theorem w64_bt (s : ByteArray) (i : Int) : wrap64 (bt s i) = bt s i := by
  have := bt_range s i
  exact w64 (by omega) (by omega)
/-- A string's bytes as numbers. -/
def bs (s : ByteArray) : List Int := s.data.toList.map fun b => (b.toNat : Int)
theorem bs_length (s : ByteArray) : (bs s).length = s.size := by simp [bs]
theorem bs_get (s : ByteArray) (i : Nat) (h : i < s.size) : (bs s)[i]? = some (bt s i) := by
  have h2 : i < s.data.toList.length := by simpa using h
  simp only [bs, List.getElem?_map, List.getElem?_eq_getElem h2, Option.map_some]
  unfold bt
  rw [dif_pos (by simpa using h)]
  rfl
theorem bs_drop (s : ByteArray) (i : Nat) (h : i < s.size) : (bs s).drop i = bt s i :: (bs s).drop (i + 1) := by
  have h2 : i < (bs s).length := by rw [bs_length]; exact h
  rw [List.drop_eq_getElem_cons h2]
  congr 1
  have := bs_get s i h
  rw [List.getElem?_eq_getElem h2] at this
  exact Option.some.inj this
theorem bs_drop_nil (s : ByteArray) (i : Nat) (h : s.size ≤ i) : (bs s).drop i = [] := List.drop_eq_nil_of_le (by rw [bs_length]; exact h)
theorem bs_range {s : ByteArray} {c : Int} (h : c ∈ bs s) : 0 ≤ c ∧ c ≤ 255 := by
  simp only [bs, List.mem_map] at h
  obtain ⟨b, _, rfl⟩ := h
  have := b.toNat_lt
  omega
theorem bs_inj {s t : ByteArray} (h : bs s = bs t) : s = t := by
  have hd : s.data.toList = t.data.toList := by
    refine List.map_inj_right (f := fun b : UInt8 => (b.toNat : Int)) (fun a b hab => ?_) |>.1 h
    have hab2 : (a.toNat : Int) = b.toNat := hab
    exact UInt8.toNat_inj.1 (by omega)
  cases s; cases t
  simp only [ByteArray.mk.injEq]
  exact Array.toList_inj.1 hd
theorem bs_str {xs : List Int} (h : ∀ x ∈ xs, 0 ≤ x ∧ x ≤ 255) : bs (strOfNums xs) = xs := by
  unfold bs strOfNums
  simp only [List.map_map]
  conv => rhs; rw [← List.map_id xs]
  refine List.map_congr_left fun x hx => ?_
  have := h x hx
  simp only [Function.comp, id, UInt8.toNat_ofNat']
  omega
theorem str_bs (s : ByteArray) : strOfNums (bs s) = s := bs_inj (bs_str fun _ hx => bs_range hx)
theorem str_size (xs : List Int) : (strOfNums xs).size = xs.length := by
  show ((xs.map fun n => UInt8.ofNat n.toNat).toArray).size = xs.length
  simp
theorem bs_append (s t : ByteArray) : bs (s ++ t) = bs s ++ bs t := by
  simp [bs]
theorem bs_empty : bs (⟨#[]⟩ : ByteArray) = [] := rfl
theorem bt_str {xs : List Int} (h : ∀ x ∈ xs, 0 ≤ x ∧ x ≤ 255) (i : Nat) (hi : i < xs.length) : bt (strOfNums xs) i = rd xs i := by
  have h1 := bs_get (strOfNums xs) i (by rw [str_size]; exact hi)
  rw [bs_str h] at h1
  unfold rd
  rw [List.getD_eq_getElem?_getD, Int.toNat_natCast, h1]
  rfl
theorem bt_bs (s : ByteArray) (i : Int) : bt s i = rd (bs s) i := by
  unfold rd
  rw [List.getD_eq_getElem?_getD]
  by_cases h : i.toNat < s.size
  · have := bs_get s i.toNat h
    rw [this]
    unfold bt
    simp only [Int.toNat_natCast]
    rw [dif_pos h]
    rfl
  · rw [List.getElem?_eq_none (by rw [bs_length]; omega)]
    unfold bt
    rw [dif_neg h]
    rfl
theorem toList_eq {s t : ByteArray} : s.toList = t.toList ↔ s = t := by
  rw [ByteArray.toList_eq, ByteArray.toList_eq]
  constructor
  · intro h; cases s; cases t; simpa [Array.toList_inj] using h
  · rintro rfl; rfl
theorem tdiv_e {n : Int} (h : 0 ≤ n) (m : Int) : Int.tdiv n m = n / m := Int.tdiv_eq_ediv_of_nonneg h
theorem tmod_e {n : Int} (h : 0 ≤ n) (m : Int) : Int.tmod n m = n % m := Int.tmod_eq_emod_of_nonneg h

/-! ### crc -/
def iter {α : Type} (f : α → α) : Nat → α → α
  | 0, x => x
  | n + 1, x => iter f n (f x)
/-- One bit of a sum. -/
def crcBit (x : Int) : Int := if Int.tmod x 2 = 1 then Go.bits .xor .u32 ((Int.tdiv x 2) % 4294967296) 3558460437 else (Int.tdiv x 2) % 4294967296
def crcByte (x c : Int) : Int := iter crcBit 8 (Go.bits .xor .u32 x (c % 4294967296))
def sumMoreN (x : Int) (l : List Int) : Int := l.foldl crcByte x

/-! ### highFirstN -/
/-- Four bytes, the highest first. -/
def four (n : Int) : List Int := [n / 16777216 % 256, n / 65536 % 256, n / 256 % 256, n % 256]

/-! ### sealedL -/
theorem bits_u32 (op : BinOp) (a b : Int) : 0 ≤ Go.bits op .u32 a b ∧ Go.bits op .u32 a b < 4294967296 := by
  unfold Go.bits
  rw [IntKind.wrap_u32']
  omega
theorem crcBit_range (x : Int) (h : 0 ≤ x ∧ x < 4294967296) : 0 ≤ crcBit x ∧ crcBit x < 4294967296 := by
  unfold crcBit
  split
  · exact bits_u32 _ _ _
  · omega
theorem iter_range (n : Nat) : ∀ x : Int, 0 ≤ x ∧ x < 4294967296 → 0 ≤ iter crcBit n x ∧ iter crcBit n x < 4294967296 := by
  induction n with
  | zero => intro x h; exact h
  | succ n ih => intro x h; exact ih _ (crcBit_range x h)
theorem sumMoreN_range (l : List Int) : ∀ x : Int, 0 ≤ x ∧ x < 4294967296 → 0 ≤ sumMoreN x l ∧ sumMoreN x l < 4294967296 := by
  induction l with
  | nil => intro x h; exact h
  | cons c l ih => intro x h; exact ih _ (iter_range 8 _ (bits_u32 _ _ _))
def sumOfN (s : ByteArray) : Int := sumMoreN 4294967295 (bs s)
theorem sumOfN_range (s : ByteArray) : 0 ≤ sumOfN s ∧ sumOfN s < 4294967296 := sumMoreN_range _ _ (by omega)
/-- What Sealed tells of a string. -/
def sealedR (s : ByteArray) : ByteArray × Bool := if s.size ≤ 20000 then (s ++ strOfNums (four (sumOfN s)), true) else (⟨#[]⟩, false)

/-! ### extract -/
theorem bs_extract (s : ByteArray) (a b : Nat) : bs (s.extract a b) = ((bs s).drop a).take (b - a) := by
  unfold bs
  rw [ByteArray.data_extract, Array.toList_extract, List.extract_eq_take_drop, List.map_take, List.map_drop]
theorem toList_iff {s t : ByteArray} : s.toList = t.toList ↔ bs s = bs t := by
  rw [toList_eq]
  exact ⟨fun h => h ▸ rfl, bs_inj⟩

/-! ### unsealed -/
theorem size_extract (s : ByteArray) (a b : Nat) (h : b ≤ s.size) : (s.extract a b).size = b - a := by
  have := congrArg List.length (bs_extract s a b)
  rw [bs_length, List.length_take, List.length_drop, bs_length] at this
  omega
/-- The text without its seal, and the seal. -/
def bodyOf (s : ByteArray) : ByteArray := s.extract 0 (s.size - 4)
def sealOf (s : ByteArray) : ByteArray := s.extract (s.size - 4) s.size
theorem body_seal (s : ByteArray) (h : 4 ≤ s.size) : bs (bodyOf s) ++ bs (sealOf s) = bs s := by
  unfold bodyOf sealOf
  rw [bs_extract, bs_extract, List.drop_zero, Nat.sub_zero, List.take_of_length_le (l := (bs s).drop (s.size - 4)) (by rw [List.length_drop, bs_length]; omega), List.take_append_drop]
theorem four_range (n : Int) : ∀ x ∈ four n, 0 ≤ x ∧ x ≤ 255 := by
  intro x hx
  simp only [four, List.mem_cons, List.not_mem_nil, or_false] at hx
  rcases hx with rfl | rfl | rfl | rfl <;> omega
theorem four_length (n : Int) : (four n).length = 4 := rfl
def sealFits (s : ByteArray) : Prop := bs (sealOf s) = four (sumOfN (bodyOf s))
instance (s : ByteArray) : Decidable (sealFits s) := by unfold sealFits; infer_instance
/-- What Unsealed tells. -/
def unsealedR (s : ByteArray) : ByteArray × Bool := if 4 ≤ s.size ∧ s.size ≤ 20004 ∧ sealFits s then (bodyOf s, true) else (⟨#[]⟩, false)

/-! ### specSumMore -/
theorem specSumMore_l1 (s : ByteArray) (i : Int) (r : Nat) : ∀ (k : Nat) (x : Int), r ≤ 8 → spec_SumMore.l1 (k + r + 1) x s i (8 - (r : Int)) = spec_SumMore.l0 k (iter crcBit r x) s (wrap64 (i + 1)) := by
  induction r with
  | zero =>
    intro k x _
    rw [spec_SumMore.l1]
    rw [if_neg (by omega)]; rfl
  | succ r ih =>
    intro k x hr
    have e := fun y => ih k y (by omega)
    rw [show k + (r + 1) + 1 = (k + r + 1) + 1 from by omega]
    rw [spec_SumMore.l1]
    rw [if_pos (by omega), w64 (by omega) (by omega), show (8 - ((r + 1 : Nat) : Int) + 1) = 8 - (r : Int) from by omega, e, e]
    simp only [iter, crcBit]
    split <;> rfl
theorem specSumMore_l0 (s : ByteArray) (hs : s.size ≤ 140737488351232) (d : Nat) : ∀ (k i : Nat) (x : Int), s.size - i ≤ d → 10 * d < k →
    spec_SumMore.l0 k x s (i : Int) = some (sumMoreN x ((bs s).drop i)) := by
  induction d with
  | zero =>
    intro k i x hd hk
    obtain ⟨k, rfl⟩ : ∃ m, k = m + 1 := ⟨k - 1, by omega⟩
    simp only [spec_SumMore.l0]
    rw [if_neg (by omega), bs_drop_nil s i (by omega)]; rfl
  | succ d ih =>
    intro k i x hd hk
    by_cases hi : i < s.size
    · obtain ⟨k, rfl⟩ : ∃ m, k = (m + 8 + 1) + 1 := ⟨k - 10, by omega⟩
      simp only [spec_SumMore.l0]
      have e := specSumMore_l1 s i 8 k (Go.bits .xor .u32 x ((bt s i) % 4294967296)) (by omega)
      rw [show (8 : Int) - ((8 : Nat) : Int) = 0 from rfl] at e
      rw [if_pos (by omega), if_pos (by omega), e, w64_succ hi hs, ih _ _ _ (by omega) (by omega), bs_drop s i hi]
      rfl
    · obtain ⟨k, rfl⟩ : ∃ m, k = m + 1 := ⟨k - 1, by omega⟩
      simp only [spec_SumMore.l0]
      rw [if_neg (by omega), bs_drop_nil s i (by omega)]; rfl
theorem specSumMore_is (x : Int) (s : ByteArray) (hs : s.size ≤ 140737488351232) (k : Nat) (hk : 10 * s.size < k) : spec_SumMore.f k x s = some (sumMoreN x (bs s)) := by
  unfold spec_SumMore.f
  exact specSumMore_l0 s hs s.size k 0 x (by omega) hk

/-! ### specSumOf -/
theorem specSumOf_is (s : ByteArray) (hs : s.size ≤ 140737488351232) (k : Nat) (hk : 10 * s.size < k) : spec_SumOf.f k s = some (sumMoreN 4294967295 (bs s)) := by
  unfold spec_SumOf.f
  rw [specSumMore_is _ s hs k hk]; rfl

/-! ### specUnsealed -/
theorem specUnsealed_is (s : ByteArray) (hs : s.size ≤ 140737488351232) (k : Nat) (hk : 10 * s.size < k) : spec_Unsealed.f k s = some (unsealedR s) := by
  unfold spec_Unsealed.f unsealedR
  rw [w64 (by omega) (by omega)]
  by_cases h : 4 ≤ s.size
  · rw [if_neg (by omega)]
    by_cases h2 : s.size ≤ 20004
    · have he : s.extract 0 (((s.size : Int) - 4)).toNat = bodyOf s := by rw [show (((s.size : Int) - 4)).toNat = s.size - 4 from by omega]; rfl
      have he2 : s.extract (((s.size : Int) - 4)).toNat s.size = sealOf s := by rw [show (((s.size : Int) - 4)).toNat = s.size - 4 from by omega]; rfl
      have hz : (bodyOf s).size = s.size - 4 := by unfold bodyOf; rw [size_extract _ _ _ (by omega)]; omega
      rw [if_neg (by omega), if_pos (by omega), if_pos (by omega), he, he2, specSumOf_is (bodyOf s) (by omega) k (by omega)]
      simp only [Option.bind_some, spec_l02Four.f]
      have hi : (sealOf s).toList = (strOfNums ([sumMoreN 4294967295 (bs (bodyOf s)) / 16777216 % 256, sumMoreN 4294967295 (bs (bodyOf s)) / 65536 % 256, sumMoreN 4294967295 (bs (bodyOf s)) / 256 % 256, sumMoreN 4294967295 (bs (bodyOf s)) % 256] : List Int)).toList ↔ sealFits s := by
        rw [toList_iff, show ([sumMoreN 4294967295 (bs (bodyOf s)) / 16777216 % 256, sumMoreN 4294967295 (bs (bodyOf s)) / 65536 % 256, sumMoreN 4294967295 (bs (bodyOf s)) / 256 % 256, sumMoreN 4294967295 (bs (bodyOf s)) % 256] : List Int) = four (sumOfN (bodyOf s)) from rfl, bs_str (four_range _)]; rfl
      by_cases h3 : sealFits s
      · rw [if_pos (hi.2 h3), if_pos ⟨h, h2, h3⟩]
      · rw [if_neg (fun x => h3 (hi.1 x)), if_neg (fun x => h3 x.2.2)]
    · rw [if_pos (by omega), if_neg (fun x => h2 x.2.1)]
  · rw [if_pos (by omega), if_neg (fun x => h x.1)]

/-! ### implSumMore -/
theorem implSumMore_l1 (s : ByteArray) (i : Int) (r : Nat) : ∀ (k : Nat) (x : Int), r ≤ 8 → impl_SumMore.l1 (k + r + 1) x s i (8 - (r : Int)) = impl_SumMore.l0 k (iter crcBit r x) s (wrap64 (i + 1)) := by
  induction r with
  | zero =>
    intro k x _
    rw [impl_SumMore.l1]
    rw [if_neg (by omega)]; rfl
  | succ r ih =>
    intro k x hr
    have e := fun y => ih k y (by omega)
    rw [show k + (r + 1) + 1 = (k + r + 1) + 1 from by omega]
    rw [impl_SumMore.l1]
    rw [if_pos (by omega), w64 (by omega) (by omega), show (8 - ((r + 1 : Nat) : Int) + 1) = 8 - (r : Int) from by omega, e, e]
    simp only [iter, crcBit]
    split <;> rfl
theorem implSumMore_l0 (s : ByteArray) (hs : s.size ≤ 140737488351232) (d : Nat) : ∀ (k i : Nat) (x : Int), s.size - i ≤ d → 10 * d < k →
    impl_SumMore.l0 k x s (i : Int) = some (sumMoreN x ((bs s).drop i)) := by
  induction d with
  | zero =>
    intro k i x hd hk
    obtain ⟨k, rfl⟩ : ∃ m, k = m + 1 := ⟨k - 1, by omega⟩
    simp only [impl_SumMore.l0]
    rw [if_neg (by omega), bs_drop_nil s i (by omega)]; rfl
  | succ d ih =>
    intro k i x hd hk
    by_cases hi : i < s.size
    · obtain ⟨k, rfl⟩ : ∃ m, k = (m + 8 + 1) + 1 := ⟨k - 10, by omega⟩
      simp only [impl_SumMore.l0]
      have e := implSumMore_l1 s i 8 k (Go.bits .xor .u32 x ((bt s i) % 4294967296)) (by omega)
      rw [show (8 : Int) - ((8 : Nat) : Int) = 0 from rfl] at e
      rw [if_pos (by omega), if_pos (by omega), e, w64_succ hi hs, ih _ _ _ (by omega) (by omega), bs_drop s i hi]
      rfl
    · obtain ⟨k, rfl⟩ : ∃ m, k = m + 1 := ⟨k - 1, by omega⟩
      simp only [impl_SumMore.l0]
      rw [if_neg (by omega), bs_drop_nil s i (by omega)]; rfl
theorem implSumMore_is (x : Int) (s : ByteArray) (hs : s.size ≤ 140737488351232) (k : Nat) (hk : 10 * s.size < k) : impl_SumMore.f k x s = some (sumMoreN x (bs s)) := by
  unfold impl_SumMore.f
  exact implSumMore_l0 s hs s.size k 0 x (by omega) hk

/-! ### implSumOf -/
theorem implSumOf_is (s : ByteArray) (hs : s.size ≤ 140737488351232) (k : Nat) (hk : 10 * s.size < k) : impl_SumOf.f k s = some (sumMoreN 4294967295 (bs s)) := by
  unfold impl_SumOf.f
  rw [implSumMore_is _ s hs k hk]; rfl

/-! ### highFirst -/
theorem ofInt64 (n : Nat) (h : n < 4294967296) : (BitVec.ofInt 64 (n : Int)).toNat = n := by rw [BitVec.toNat_ofInt]; omega
theorem i64_plain (x : Int) (h : 0 ≤ x) (h' : x < 256) : IntKind.i64.wrap x = x := by rw [IntKind.wrap_i64]; omega
theorem and255 (n : Nat) (h : n < 4294967296) : Go.bits .and .i64 (n : Int) 255 = ((n % 256 : Nat) : Int) := by
  show IntKind.i64.wrap (((BitVec.ofInt 64 (n : Int)) &&& (BitVec.ofInt 64 255)).toNat : Int) = _
  rw [BitVec.toNat_and, ofInt64 n h, show (BitVec.ofInt 64 255).toNat = 2 ^ 8 - 1 from by decide, Nat.and_two_pow_sub_one_eq_mod]
  exact i64_plain _ (by omega) (by omega)
theorem highFirst_is (n : Int) (h : 0 ≤ n ∧ n < 4294967296) (k : Nat) (hk : 5 ≤ k) : impl_highFirst.f k n 4 = some (strOfNums (four n)) := by
  obtain ⟨k, rfl⟩ : ∃ m, k = m + 1 + 1 + 1 + 1 + 1 := ⟨k - 5, by omega⟩
  obtain ⟨m, rfl⟩ := Int.eq_ofNat_of_zero_le h.1
  unfold impl_highFirst.f
  rw [if_pos (by omega), if_pos (by decide), show List.replicate (4 : Int).toNat (0 : Int) = [0, 0, 0, 0] from rfl, show wrap64 ((4 : Int) - 1) = 3 from by unfold wrap64; rfl]
  rw [impl_highFirst.l0, if_pos (by omega), if_pos (by omega), if_pos (by decide), and255 m (by omega), show wrap64 ((3 : Int) - 1) = 2 from by unfold wrap64; rfl]
  rw [show (m : Int) / 256 = ((m / 256 : Nat) : Int) from by omega]
  rw [impl_highFirst.l0, if_pos (by omega), if_pos (by omega), if_pos (by simp), and255 (m / 256) (by omega), show wrap64 ((2 : Int) - 1) = 1 from by unfold wrap64; rfl]
  rw [show ((m / 256 : Nat) : Int) / 256 = ((m / 256 / 256 : Nat) : Int) from by omega]
  rw [impl_highFirst.l0, if_pos (by omega), if_pos (by omega), if_pos (by simp), and255 (m / 256 / 256) (by omega), show wrap64 ((1 : Int) - 1) = 0 from by unfold wrap64; rfl]
  rw [show ((m / 256 / 256 : Nat) : Int) / 256 = ((m / 256 / 256 / 256 : Nat) : Int) from by omega]
  rw [impl_highFirst.l0, if_pos (by omega), if_pos (by omega), if_pos (by simp), and255 (m / 256 / 256 / 256) (by omega), show wrap64 ((0 : Int) - 1) = -1 from by unfold wrap64; rfl]
  rw [impl_highFirst.l0, if_neg (by omega)]
  refine congrArg some (congrArg strOfNums (?_ : ([((m / 256 / 256 / 256 % 256 : Nat) : Int) % 256, ((m / 256 / 256 % 256 : Nat) : Int) % 256, ((m / 256 % 256 : Nat) : Int) % 256, ((m % 256 : Nat) : Int) % 256] : List Int) = four (m : Int)))
  simp only [four, List.cons.injEq, and_true]
  refine ⟨?_, ?_, ?_, ?_⟩ <;> omega

/-! ### implSealed -/
theorem implSealed_is (s : ByteArray) (hs : s.size ≤ 140737488351232) (k : Nat) (hk : 10 * s.size + 5 < k) : impl_Sealed.f k s = some (sealedR s) := by
  unfold impl_Sealed.f sealedR
  by_cases h : s.size ≤ 20000
  · rw [if_neg (by omega), if_pos h, implSumOf_is s hs k (by omega)]
    have hr := sumOfN_range s
    simp only [Option.bind_some]
    rw [show sumMoreN 4294967295 (bs s) = sumOfN s from rfl, w64 (by omega) (by omega), highFirst_is _ hr k (by omega)]
    simp only [Option.bind_some]
    rw [if_pos (by rw [str_size]; simp [four]; omega)]
  · rw [if_pos (by omega), if_neg h]

/-! ### implUnsealed -/
theorem implUnsealed_is (s : ByteArray) (hs : s.size ≤ 140737488351232) (k : Nat) (hk : 10 * s.size + 5 < k) : impl_Unsealed.f k s = some (unsealedR s) := by
  unfold impl_Unsealed.f unsealedR
  rw [w64 (by omega) (by omega)]
  by_cases h : 4 ≤ s.size
  · have he : s.extract 0 (((s.size : Int) - 4)).toNat = bodyOf s := by rw [show (((s.size : Int) - 4)).toNat = s.size - 4 from by omega]; rfl
    have hz : (bodyOf s).size = s.size - 4 := by unfold bodyOf; rw [size_extract _ _ _ (by omega)]; omega
    rw [if_neg (by omega), if_pos (by omega), if_pos (by omega), he, implSealed_is (bodyOf s) (by omega) k (by omega), Option.bind_some]
    by_cases h2 : s.size ≤ 20004
    · have hS : sealedR (bodyOf s) = (bodyOf s ++ strOfNums (four (sumOfN (bodyOf s))), true) := by unfold sealedR; rw [if_pos (by omega)]
      rw [hS]
      have hi : (bodyOf s ++ strOfNums (four (sumOfN (bodyOf s)))).toList = s.toList ↔ sealFits s := by
        rw [toList_iff, bs_append, bs_str (four_range _)]
        conv => lhs; rhs; rw [← body_seal s h]
        rw [List.append_cancel_left_eq]
        exact eq_comm
      rw [if_pos rfl]
      by_cases h3 : sealFits s
      · rw [if_pos (hi.2 h3), if_pos ⟨h, h2, h3⟩]
      · rw [if_neg (fun x => h3 (hi.1 x)), if_neg (fun x => h3 x.2.2)]
    · have hS : sealedR (bodyOf s) = (⟨#[]⟩, false) := by unfold sealedR; rw [if_neg (by omega)]
      rw [hS, if_neg (by simp), if_neg (fun x => h2 x.2.1)]
  · rw [if_pos (by omega), if_neg (fun x => h x.1)]

/-! ### FnExactUnsealed -/
theorem FnExactUnsealed : laws_FnExactUnsealed.Pure := by
  intro s hs
  refine ⟨10 * s.size + 6, ?_⟩
  unfold laws_FnExactUnsealed.f
  by_cases h : (s.size : Int) > 1048576
  · rw [if_pos h]
  · rw [if_neg h, specUnsealed_is s hs _ (by omega), implUnsealed_is s hs _ (by omega)]; simp

end Go.Proofs.Ytigibdkgimgknaa.Pure
