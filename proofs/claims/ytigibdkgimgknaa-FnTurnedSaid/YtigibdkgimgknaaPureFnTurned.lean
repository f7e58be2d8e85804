/- FnTurned without Go: what is drawn is unsealed as it was sealed; with one byte turned it is not; SumMore goes on. -/
import Derived.Test.YtigibdkgimgknaaMFnTurnedx2
import Derived.Laws.BitsAllLaws
set_option linter.unusedVariables false
set_option linter.unusedSimpArgs false
set_option maxHeartbeats 400000
namespace Go.Proofs.Ytigibdkgimgknaa.Pure
open Go.RowKit Go.Proofs.Ytigibdkgimgknaa.MFnTurned Go.Proofs.YtigibdkgimgknaaW.PrintWords Go.Proofs.YtigibdkgimgknaaW.PrintLast
/-! ### base -/
theorem w64 {n : Int} (h : -9223372036854775808 ≤ n) (h' : n ≤ 9223372036854775807) : wrap64 n = n := by unfold wrap64; omega
theorem w64_succ {i m : Nat} (h : i < m) (hm : m ≤ 140737488351232) : wrap64 ((i : Int) + 1) = ((i + 1 : Nat) : Int) := by
  rw [w64 (by omega) (by omega)]; omega
theorem w64_bt (s : ByteArray) (i : Int) : wrap64 (bt s i) = bt s i := by
  have := bt_range s i
  exact w64 (by omega) (by omega)
/-- A string's bytes as numbers. -/
def bs (s : ByteArray) : List Int := s.data.toList.map fun b => (b.toNat : Int)
theorem bs_length (s : ByteArray) : (bs s).length = s.size := by simp [bs]
theorem bs_get (s : ByteArray) (i : Nat) (h : i < s.size) : (bs s)[i]? = some (bt s i) := by
  have h2 : i < s.data.toList.length := by simpa using h
  simp only [bs, List.getElem?_map, List.getElem?_eq_getElem h2, Option.map_some]
  unfold bt
  rw [dif_pos (by simpa using h)]
  rfl
theorem bs_drop (s : ByteArray) (i : Nat) (h : i < s.size) : (bs s).drop i = bt s i :: (bs s).drop (i + 1) := by
  have h2 : i < (bs s).length := by rw [bs_length]; exact h
  rw [List.drop_eq_getElem_cons h2]
  congr 1
  have := bs_get s i h
  rw [List.getElem?_eq_getElem h2] at this
  exact Option.some.inj this
theorem bs_drop_nil (s : ByteArray) (i : Nat) (h : s.size ≤ i) : (bs s).drop i = [] := List.drop_eq_nil_of_le (by rw [bs_length]; exact h)
theorem bs_range {s : ByteArray} {c : Int} (h : c ∈ bs s) : 0 ≤ c ∧ c ≤ 255 := by
  simp only [bs, List.mem_map] at h
  obtain ⟨b, _, rfl⟩ := h
  have := b.toNat_lt
  omega
theorem bs_inj {s t : ByteArray} (h : bs s = bs t) : s = t := by
  have hd : s.data.toList = t.data.toList := by
    refine List.map_inj_right (f := fun b : UInt8 => (b.toNat : Int)) (fun a b hab => ?_) |>.1 h
    have hab2 : (a.toNat : Int) = b.toNat := hab
    exact UInt8.toNat_inj.1 (by omega)
  cases s; cases t
  simp only [ByteArray.mk.injEq]
  exact Array.toList_inj.1 hd
theorem bs_str {xs : List Int} (h : ∀ x ∈ xs, 0 ≤ x ∧ x ≤ 255) : bs (strOfNums xs) = xs := by
  unfold bs strOfNums
  simp only [List.map_map]
  conv => rhs; rw [← List.map_id xs]
  refine List.map_congr_left fun x hx => ?_
  have := h x hx
  simp only [Function.comp, id, UInt8.toNat_ofNat']
  omega
theorem str_bs (s : ByteArray) : strOfNums (bs s) = s := bs_inj (bs_str fun _ hx => bs_range hx)
theorem str_size (xs : List Int) : (strOfNums xs).size = xs.length := by
  show ((xs.map fun n => UInt8.ofNat n.toNat).toArray).size = xs.length
  simp
theorem bs_append (s t : ByteArray) : bs (s ++ t) = bs s ++ bs t := by
  simp [bs]
theorem bs_empty : bs (⟨#[]⟩ : ByteArray) = [] := rfl
theorem bt_str {xs : List Int} (h : ∀ x ∈ xs, 0 ≤ x ∧ x ≤ 255) (i : Nat) (hi : i < xs.length) : bt (strOfNums xs) i = rd xs i := by
  have h1 := bs_get (strOfNums xs) i (by rw [str_size]; exact hi)
  rw [bs_str h] at h1
  unfold rd
  rw [List.getD_eq_getElem?_getD, Int.toNat_natCast, h1]
  rfl
theorem bt_bs (s : ByteArray) (i : Int) : bt s i = rd (bs s) i := by
  unfold rd
  rw [List.getD_eq_getElem?_getD]
  by_cases h : i.toNat < s.size
  · have := bs_get s i.toNat h
    rw [this]
    unfold bt
    simp only [Int.toNat_natCast]
    rw [dif_pos h]
    rfl
  · rw [List.getElem?_eq_none (by rw [bs_length]; omega)]
    unfold bt
    rw [dif_neg h]
    rfl
theorem toList_eq {s t : ByteArray} : s.toList = t.toList ↔ s = t := by
  rw [ByteArray.toList_eq, ByteArray.toList_eq]
  constructor
  · intro h; cases s; cases t; simpa [Array.toList_inj] using h
  · rintro rfl; rfl
theorem tdiv_e {n : Int} (h : 0 ≤ n) (m : Int) : Int.tdiv n m = n / m := Int.tdiv_eq_ediv_of_nonneg h
theorem tmod_e {n : Int} (h : 0 ≤ n) (m : Int) : Int.tmod n m = n % m := Int.tmod_eq_emod_of_nonneg h

/-! ### crc -/
def iter {α : Type} (f : α → α) : Nat → α → α
  | 0, x => x
  | n + 1, x => iter f n (f x)
/-- One bit of a sum. -/
def crcBit (x : Int) : Int := if Int.tmod x 2 = 1 then Go.bits .xor .u32 ((Int.tdiv x 2) % 4294967296) 3558460437 else (Int.tdiv x 2) % 4294967296
def crcByte (x c : Int) : Int := iter crcBit 8 (Go.bits .xor .u32 x (c % 4294967296))
def sumMoreN (x : Int) (l : List Int) : Int := l.foldl crcByte x

/-! ### highFirstN -/
/-- Four bytes, the highest first. -/
def four (n : Int) : List Int := [n / 16777216 % 256, n / 65536 % 256, n / 256 % 256, n % 256]

/-! ### sealedL -/
theorem bits_u32 (op : BinOp) (a b : Int) : 0 ≤ Go.bits op .u32 a b ∧ Go.bits op .u32 a b < 4294967296 := by
  unfold Go.bits
  rw [IntKind.wrap_u32']
  omega
theorem crcBit_range (x : Int) (h : 0 ≤ x ∧ x < 4294967296) : 0 ≤ crcBit x ∧ crcBit x < 4294967296 := by
  unfold crcBit
  split
  · exact bits_u32 _ _ _
  · omega
theorem iter_range (n : Nat) : ∀ x : Int, 0 ≤ x ∧ x < 4294967296 → 0 ≤ iter crcBit n x ∧ iter crcBit n x < 4294967296 := by
  induction n with
  | zero => intro x h; exact h
  | succ n ih => intro x h; exact ih _ (crcBit_range x h)
theorem sumMoreN_range (l : List Int) : ∀ x : Int, 0 ≤ x ∧ x < 4294967296 → 0 ≤ sumMoreN x l ∧ sumMoreN x l < 4294967296 := by
  induction l with
  | nil => intro x h; exact h
  | cons c l ih => intro x h; exact ih _ (iter_range 8 _ (bits_u32 _ _ _))
def sumOfN (s : ByteArray) : Int := sumMoreN 4294967295 (bs s)
theorem sumOfN_range (s : ByteArray) : 0 ≤ sumOfN s ∧ sumOfN s < 4294967296 := sumMoreN_range _ _ (by omega)
/-- What Sealed tells of a string. -/
def sealedR (s : ByteArray) : ByteArray × Bool := if s.size ≤ 20000 then (s ++ strOfNums (four (sumOfN s)), true) else (⟨#[]⟩, false)

/-! ### crcInj -/
/-! the sum tells one byte from another -/
theorem nxor_cancel {a b c : Nat} (h : a ^^^ b = a ^^^ c) : b = c := by
  have := congrArg (a ^^^ ·) h
  simp only [← Nat.xor_assoc, Nat.xor_self, Nat.zero_xor] at this
  exact this
theorem nxor_cancel' {a b c : Nat} (h : b ^^^ a = c ^^^ a) : b = c := by
  rw [Nat.xor_comm b, Nat.xor_comm c] at h
  exact nxor_cancel h
theorem poly_high (q : Nat) (h : q < 2147483648) : 2147483648 ≤ q ^^^ 3558460437 := by
  have h1 : (q ^^^ 3558460437).testBit 31 = true := by
    rw [Nat.testBit_xor, Nat.testBit_lt_two_pow (show q < 2 ^ 31 from h)]
    decide
  exact Nat.ge_two_pow_of_testBit h1
theorem crcBit_nat (n : Nat) (h : n < 4294967296) : crcBit (n : Int) = if n % 2 = 1 then ((n / 2 ^^^ 3558460437 : Nat) : Int) else ((n / 2 : Nat) : Int) := by
  unfold crcBit
  have e1 : Int.tmod (n : Int) 2 = ((n % 2 : Nat) : Int) := by rw [tmod_e (by omega)]; omega
  have e2 : (Int.tdiv (n : Int) 2) % 4294967296 = ((n / 2 : Nat) : Int) := by rw [tdiv_e (by omega)]; omega
  rw [e1, e2]
  by_cases c : n % 2 = 1
  · rw [if_pos (by omega), if_pos c]
    exact u32_xor_nat (n / 2) 3558460437 (by omega) (by omega)
  · rw [if_neg (by omega), if_neg c]
theorem crcBit_inj {x y : Int} (hx : 0 ≤ x ∧ x < 4294967296) (hy : 0 ≤ y ∧ y < 4294967296) (h : crcBit x = crcBit y) : x = y := by
  obtain ⟨a, rfl⟩ := Int.eq_ofNat_of_zero_le hx.1
  obtain ⟨b, rfl⟩ := Int.eq_ofNat_of_zero_le hy.1
  rw [crcBit_nat a (by omega), crcBit_nat b (by omega)] at h
  have ha := poly_high (a / 2) (by omega)
  have hb := poly_high (b / 2) (by omega)
  by_cases c : a % 2 = 1
  · rw [if_pos c] at h
    by_cases d : b % 2 = 1
    · rw [if_pos d] at h
      have : a / 2 = b / 2 := nxor_cancel' (Int.ofNat.inj h)
      omega
    · rw [if_neg d] at h
      have := Int.ofNat.inj h
      omega
  · rw [if_neg c] at h
    by_cases d : b % 2 = 1
    · rw [if_pos d] at h
      have := Int.ofNat.inj h
      omega
    · rw [if_neg d] at h
      have := Int.ofNat.inj h
      omega
theorem iter_inj (n : Nat) : ∀ x y : Int, 0 ≤ x ∧ x < 4294967296 → 0 ≤ y ∧ y < 4294967296 → iter crcBit n x = iter crcBit n y → x = y := by
  induction n with
  | zero => intro x y _ _ h; exact h
  | succ n ih => intro x y hx hy h; exact crcBit_inj hx hy (ih _ _ (crcBit_range x hx) (crcBit_range y hy) h)
theorem xor_plain {x c : Int} (hx : 0 ≤ x ∧ x < 4294967296) (hc : 0 ≤ c ∧ c ≤ 255) : Go.bits .xor .u32 x (c % 4294967296) = ((x.toNat ^^^ c.toNat : Nat) : Int) := by
  rw [Int.emod_eq_of_lt hc.1 (by omega)]
  exact u32_xor x c hx.1 hx.2 hc.1 (by omega)
theorem crcByte_inj {x y c : Int} (hx : 0 ≤ x ∧ x < 4294967296) (hy : 0 ≤ y ∧ y < 4294967296) (hc : 0 ≤ c ∧ c ≤ 255) (h : crcByte x c = crcByte y c) : x = y := by
  have h2 := iter_inj 8 _ _ (bits_u32 _ _ _) (bits_u32 _ _ _) h
  rw [xor_plain hx hc, xor_plain hy hc] at h2
  have := nxor_cancel' (Int.ofNat.inj h2)
  omega
theorem crcByte_inj2 {x c d : Int} (hx : 0 ≤ x ∧ x < 4294967296) (hc : 0 ≤ c ∧ c ≤ 255) (hd : 0 ≤ d ∧ d ≤ 255) (h : crcByte x c = crcByte x d) : c = d := by
  have h2 := iter_inj 8 _ _ (bits_u32 _ _ _) (bits_u32 _ _ _) h
  rw [xor_plain hx hc, xor_plain hx hd] at h2
  have := nxor_cancel (Int.ofNat.inj h2)
  omega
theorem sumMoreN_inj (l : List Int) (hl : ∀ c ∈ l, 0 ≤ c ∧ c ≤ 255) : ∀ x y : Int, 0 ≤ x ∧ x < 4294967296 → 0 ≤ y ∧ y < 4294967296 → sumMoreN x l = sumMoreN y l → x = y := by
  induction l with
  | nil => intro x y _ _ h; exact h
  | cons c l ih =>
    intro x y hx hy h
    have hc := hl c (List.mem_cons_self ..)
    exact crcByte_inj hx hy hc (ih (fun d hd => hl d (List.mem_cons_of_mem _ hd)) _ _ (iter_range 8 _ (bits_u32 _ _ _)) (iter_range 8 _ (bits_u32 _ _ _)) h)
theorem sumMoreN_set (l : List Int) (hl : ∀ c ∈ l, 0 ≤ c ∧ c ≤ 255) (d : Int) (hd : 0 ≤ d ∧ d ≤ 255) : ∀ (i : Nat) (h : i < l.length) (x : Int), 0 ≤ x ∧ x < 4294967296 → sumMoreN x (l.set i d) = sumMoreN x l → l[i] = d := by
  induction l with
  | nil => intro i h; simp at h
  | cons c l ih =>
    intro i h x hx e
    have hc := hl c (List.mem_cons_self ..)
    cases i with
    | zero =>
      have := sumMoreN_inj l (fun d hd => hl d (List.mem_cons_of_mem _ hd)) (crcByte x d) (crcByte x c) (iter_range 8 _ (bits_u32 _ _ _)) (iter_range 8 _ (bits_u32 _ _ _)) e
      exact (crcByte_inj2 hx hd hc this).symm
    | succ i =>
      exact ih (fun d hd => hl d (List.mem_cons_of_mem _ hd)) i (by simpa using h) (crcByte x c) (iter_range 8 _ (bits_u32 _ _ _)) e
theorem sumMoreN_append (x : Int) (a b : List Int) : sumMoreN x (a ++ b) = sumMoreN (sumMoreN x a) b := by
  unfold sumMoreN
  rw [List.foldl_append]
theorem four_inj {x y : Int} (hx : 0 ≤ x ∧ x < 4294967296) (hy : 0 ≤ y ∧ y < 4294967296) (h : four x = four y) : x = y := by
  simp only [four, List.cons.injEq, and_true] at h
  omega

/-! ### extract -/
theorem bs_extract (s : ByteArray) (a b : Nat) : bs (s.extract a b) = ((bs s).drop a).take (b - a) := by
  unfold bs
  rw [ByteArray.data_extract, Array.toList_extract, List.extract_eq_take_drop, List.map_take, List.map_drop]
theorem toList_iff {s t : ByteArray} : s.toList = t.toList ↔ bs s = bs t := by
  rw [toList_eq]
  exact ⟨fun h => h ▸ rfl, bs_inj⟩

/-! ### unsealed -/
theorem size_extract (s : ByteArray) (a b : Nat) (h : b ≤ s.size) : (s.extract a b).size = b - a := by
  have := congrArg List.length (bs_extract s a b)
  rw [bs_length, List.length_take, List.length_drop, bs_length] at this
  omega
/-- The text without its seal, and the seal. -/
def bodyOf (s : ByteArray) : ByteArray := s.extract 0 (s.size - 4)
def sealOf (s : ByteArray) : ByteArray := s.extract (s.size - 4) s.size
theorem body_seal (s : ByteArray) (h : 4 ≤ s.size) : bs (bodyOf s) ++ bs (sealOf s) = bs s := by
  unfold bodyOf sealOf
  rw [bs_extract, bs_extract, List.drop_zero, Nat.sub_zero, List.take_of_length_le (l := (bs s).drop (s.size - 4)) (by rw [List.length_drop, bs_length]; omega), List.take_append_drop]
theorem four_range (n : Int) : ∀ x ∈ four n, 0 ≤ x ∧ x ≤ 255 := by
  intro x hx
  simp only [four, List.mem_cons, List.not_mem_nil, or_false] at hx
  rcases hx with rfl | rfl | rfl | rfl <;> omega
theorem four_length (n : Int) : (four n).length = 4 := rfl
def sealFits (s : ByteArray) : Prop := bs (sealOf s) = four (sumOfN (bodyOf s))
instance (s : ByteArray) : Decidable (sealFits s) := by unfold sealFits; infer_instance
/-- What Unsealed tells. -/
def unsealedR (s : ByteArray) : ByteArray × Bool := if 4 ≤ s.size ∧ s.size ≤ 20004 ∧ sealFits s then (bodyOf s, true) else (⟨#[]⟩, false)

/-! ### implSumMore -/
theorem implSumMore_l1 (s : ByteArray) (i : Int) (r : Nat) : ∀ (k : Nat) (x : Int), r ≤ 8 → impl_SumMore.l1 (k + r + 1) x s i (8 - (r : Int)) = impl_SumMore.l0 k (iter crcBit r x) s (wrap64 (i + 1)) := by
  induction r with
  | zero =>
    intro k x _
    rw [impl_SumMore.l1]
    rw [if_neg (by omega)]; rfl
  | succ r ih =>
    intro k x hr
    have e := fun y => ih k y (by omega)
    rw [show k + (r + 1) + 1 = (k + r + 1) + 1 from by omega]
    rw [impl_SumMore.l1]
    rw [if_pos (by omega), w64 (by omega) (by omega), show (8 - ((r + 1 : Nat) : Int) + 1) = 8 - (r : Int) from by omega, e, e]
    simp only [iter, crcBit]
    split <;> rfl
theorem implSumMore_l0 (s : ByteArray) (hs : s.size ≤ 140737488351232) (d : Nat) : ∀ (k i : Nat) (x : Int), s.size - i ≤ d → 10 * d < k →
    impl_SumMore.l0 k x s (i : Int) = some (sumMoreN x ((bs s).drop i)) := by
  induction d with
  | zero =>
    intro k i x hd hk
    obtain ⟨k, rfl⟩ : ∃ m, k = m + 1 := ⟨k - 1, by omega⟩
    simp only [impl_SumMore.l0]
    rw [if_neg (by omega), bs_drop_nil s i (by omega)]; rfl
  | succ d ih =>
    intro k i x hd hk
    by_cases hi : i < s.size
    · obtain ⟨k, rfl⟩ : ∃ m, k = (m + 8 + 1) + 1 := ⟨k - 10, by omega⟩
      simp only [impl_SumMore.l0]
      have e := implSumMore_l1 s i 8 k (Go.bits .xor .u32 x ((bt s i) % 4294967296)) (by omega)
      rw [show (8 : Int) - ((8 : Nat) : Int) = 0 from rfl] at e
      rw [if_pos (by omega), if_pos (by omega), e, w64_succ hi hs, ih _ _ _ (by omega) (by omega), bs_drop s i hi]
      rfl
    · obtain ⟨k, rfl⟩ : ∃ m, k = m + 1 := ⟨k - 1, by omega⟩
      simp only [impl_SumMore.l0]
      rw [if_neg (by omega), bs_drop_nil s i (by omega)]; rfl
theorem implSumMore_is (x : Int) (s : ByteArray) (hs : s.size ≤ 140737488351232) (k : Nat) (hk : 10 * s.size < k) : impl_SumMore.f k x s = some (sumMoreN x (bs s)) := by
  unfold impl_SumMore.f
  exact implSumMore_l0 s hs s.size k 0 x (by omega) hk

/-! ### implSumOf -/
theorem implSumOf_is (s : ByteArray) (hs : s.size ≤ 140737488351232) (k : Nat) (hk : 10 * s.size < k) : impl_SumOf.f k s = some (sumMoreN 4294967295 (bs s)) := by
  unfold impl_SumOf.f
  rw [implSumMore_is _ s hs k hk]; rfl

/-! ### highFirst -/
theorem ofInt64 (n : Nat) (h : n < 4294967296) : (BitVec.ofInt 64 (n : Int)).toNat = n := by rw [BitVec.toNat_ofInt]; omega
theorem i64_plain (x : Int) (h : 0 ≤ x) (h' : x < 256) : IntKind.i64.wrap x = x := by rw [IntKind.wrap_i64]; omega
theorem and255 (n : Nat) (h : n < 4294967296) : Go.bits .and .i64 (n : Int) 255 = ((n % 256 : Nat) : Int) := by
  show IntKind.i64.wrap (((BitVec.ofInt 64 (n : Int)) &&& (BitVec.ofInt 64 255)).toNat : Int) = _
  rw [BitVec.toNat_and, ofInt64 n h, show (BitVec.ofInt 64 255).toNat = 2 ^ 8 - 1 from by decide, Nat.and_two_pow_sub_one_eq_mod]
  exact i64_plain _ (by omega) (by omega)
theorem highFirst_is (n : Int) (h : 0 ≤ n ∧ n < 4294967296) (k : Nat) (hk : 5 ≤ k) : impl_highFirst.f k n 4 = some (strOfNums (four n)) := by
  obtain ⟨k, rfl⟩ : ∃ m, k = m + 1 + 1 + 1 + 1 + 1 := ⟨k - 5, by omega⟩
  obtain ⟨m, rfl⟩ := Int.eq_ofNat_of_zero_le h.1
  unfold impl_highFirst.f
  rw [if_pos (by omega), if_pos (by decide), show List.replicate (4 : Int).toNat (0 : Int) = [0, 0, 0, 0] from rfl, show wrap64 ((4 : Int) - 1) = 3 from by unfold wrap64; rfl]
  rw [impl_highFirst.l0, if_pos (by omega), if_pos (by omega), if_pos (by decide), and255 m (by omega), show wrap64 ((3 : Int) - 1) = 2 from by unfold wrap64; rfl]
  rw [show (m : Int) / 256 = ((m / 256 : Nat) : Int) from by omega]
  rw [impl_highFirst.l0, if_pos (by omega), if_pos (by omega), if_pos (by simp), and255 (m / 256) (by omega), show wrap64 ((2 : Int) - 1) = 1 from by unfold wrap64; rfl]
  rw [show ((m / 256 : Nat) : Int) / 256 = ((m / 256 / 256 : Nat) : Int) from by omega]
  rw [impl_highFirst.l0, if_pos (by omega), if_pos (by omega), if_pos (by simp), and255 (m / 256 / 256) (by omega), show wrap64 ((1 : Int) - 1) = 0 from by unfold wrap64; rfl]
  rw [show ((m / 256 / 256 : Nat) : Int) / 256 = ((m / 256 / 256 / 256 : Nat) : Int) from by omega]
  rw [impl_highFirst.l0, if_pos (by omega), if_pos (by omega), if_pos (by simp), and255 (m / 256 / 256 / 256) (by omega), show wrap64 ((0 : Int) - 1) = -1 from by unfold wrap64; rfl]
  rw [impl_highFirst.l0, if_neg (by omega)]
  refine congrArg some (congrArg strOfNums (?_ : ([((m / 256 / 256 / 256 % 256 : Nat) : Int) % 256, ((m / 256 / 256 % 256 : Nat) : Int) % 256, ((m / 256 % 256 : Nat) : Int) % 256, ((m % 256 : Nat) : Int) % 256] : List Int) = four (m : Int)))
  simp only [four, List.cons.injEq, and_true]
  refine ⟨?_, ?_, ?_, ?_⟩ <;> omega

/-! ### implSealed -/
theorem implSealed_is (s : ByteArray) (hs : s.size ≤ 140737488351232) (k : Nat) (hk : 10 * s.size + 5 < k) : impl_Sealed.f k s = some (sealedR s) := by
  unfold impl_Sealed.f sealedR
  by_cases h : s.size ≤ 20000
  · rw [if_neg (by omega), if_pos h, implSumOf_is s hs k (by omega)]
    have hr := sumOfN_range s
    simp only [Option.bind_some]
    rw [show sumMoreN 4294967295 (bs s) = sumOfN s from rfl, w64 (by omega) (by omega), highFirst_is _ hr k (by omega)]
    simp only [Option.bind_some]
    rw [if_pos (by rw [str_size]; simp [four]; omega)]
  · rw [if_pos (by omega), if_neg h]

/-! ### implUnsealed -/
theorem implUnsealed_is (s : ByteArray) (hs : s.size ≤ 140737488351232) (k : Nat) (hk : 10 * s.size + 5 < k) : impl_Unsealed.f k s = some (unsealedR s) := by
  unfold impl_Unsealed.f unsealedR
  rw [w64 (by omega) (by omega)]
  by_cases h : 4 ≤ s.size
  · have he : s.extract 0 (((s.size : Int) - 4)).toNat = bodyOf s := by rw [show (((s.size : Int) - 4)).toNat = s.size - 4 from by omega]; rfl
    have hz : (bodyOf s).size = s.size - 4 := by unfold bodyOf; rw [size_extract _ _ _ (by omega)]; omega
    rw [if_neg (by omega), if_pos (by omega), if_pos (by omega), he, implSealed_is (bodyOf s) (by omega) k (by omega), Option.bind_some]
    by_cases h2 : s.size ≤ 20004
    · have hS : sealedR (bodyOf s) = (bodyOf s ++ strOfNums (four (sumOfN (bodyOf s))), true) := by unfold sealedR; rw [if_pos (by omega)]
      rw [hS]
      have hi : (bodyOf s ++ strOfNums (four (sumOfN (bodyOf s)))).toList = s.toList ↔ sealFits s := by
        rw [toList_iff, bs_append, bs_str (four_range _)]
        conv => lhs; rhs; rw [← body_seal s h]
        rw [List.append_cancel_left_eq]
        exact eq_comm
      rw [if_pos rfl]
      by_cases h3 : sealFits s
      · rw [if_pos (hi.2 h3), if_pos ⟨h, h2, h3⟩]
      · rw [if_neg (fun x => h3 (hi.1 x)), if_neg (fun x => h3 x.2.2)]
    · have hS : sealedR (bodyOf s) = (⟨#[]⟩, false) := by unfold sealedR; rw [if_neg (by omega)]
      rw [hS, if_neg (by simp), if_neg (fun x => h2 x.2.1)]
  · rw [if_pos (by omega), if_neg (fun x => h x.1)]

/-! ### lists -/
theorem drop_get {α : Type} (xs : List α) (i : Nat) (h : i < xs.length) : xs.drop i = xs[i] :: xs.drop (i + 1) := List.drop_eq_getElem_cons h
theorem w64_len {i n : Nat} (h : i < n) (hn : n ≤ 9223372036854775807) : wrap64 ((i : Int) + 1) = ((i + 1 : Nat) : Int) := by
  rw [w64 (by omega) (by omega)]; omega
theorem take_set {α : Type} (acc : List α) (i : Nat) (v : α) (h : i < acc.length) : (acc.set i v).take (i + 1) = acc.take i ++ [v] := by
  rw [List.take_add_one, List.getElem?_set_self h, List.take_set_of_le (Nat.le_refl i)]; rfl

/-! ### draw -/
/-! what is drawn: the cursor stays within the code; each answer within its bounds -/
theorem and255_range (x : Int) : 0 ≤ Go.bits .and .i64 x 255 ∧ Go.bits .and .i64 x 255 ≤ 255 := by
  have h : Go.bits .and .i64 x 255 = IntKind.i64.wrap (((BitVec.ofInt 64 x) &&& (BitVec.ofInt 64 255)).toNat : Int) := rfl
  have h2 : ((BitVec.ofInt 64 x) &&& (BitVec.ofInt 64 255)).toNat ≤ 255 := by
    rw [BitVec.toNat_and, show (BitVec.ofInt 64 255).toNat = 255 from by decide]
    exact Nat.and_le_right
  rw [h, IntKind.wrap_i64]
  omega
theorem l01New_l0 (b : List Int) (hb : b.length ≤ 140737488351232) (d : Nat) : ∀ (k i : Nat) (h : Int), 4000 - i ≤ d → d < k → i ≤ 4000 → ∃ h', spec_l01New.l0 k b h (i : Int) = some (b, 0, h') := by
  induction d with
  | zero =>
    intro k i h hd hk hi
    obtain ⟨k, rfl⟩ : ∃ m, k = m + 1 := ⟨k - 1, by omega⟩
    rw [spec_l01New.l0]
    by_cases c : (i : Int) < (b.length : Int)
    · rw [if_pos c, if_neg (by omega)]; exact ⟨_, rfl⟩
    · rw [if_neg c]; exact ⟨_, rfl⟩
  | succ d ih =>
    intro k i h hd hk hi
    obtain ⟨k, rfl⟩ : ∃ m, k = m + 1 := ⟨k - 1, by omega⟩
    rw [spec_l01New.l0]
    by_cases c : (i : Int) < (b.length : Int)
    · rw [if_pos c]
      by_cases c2 : (i : Int) < 4000
      · rw [if_pos c2, if_pos (by omega), w64_len (n := 4000) (by omega) (by omega)]
        exact ih k (i + 1) _ (by omega) (by omega) (by omega)
      · rw [if_neg c2]; exact ⟨_, rfl⟩
    · rw [if_neg c]; exact ⟨_, rfl⟩
theorem l01New_is (b : List Int) (hb : b.length ≤ 140737488351232) (k : Nat) (hk : 4001 ≤ k) : ∃ h', spec_l01New.f k b = some (b, 0, h') := by
  unfold spec_l01New.f
  exact l01New_l0 b hb 4000 k 0 _ (by omega) (by omega) (by omega)
/-- The cursor stands within the code. -/
def At (b : List Int) (i : Int) : Prop := b.length ≤ 140737488351232 ∧ 0 ≤ i ∧ i ≤ (b.length : Int)
theorem l01Byte_is (b : List Int) (i h : Int) (hi : At b i) : ∃ r i' h', spec_l01Byte.f b i h = some (r, i', h') ∧ (0 ≤ r ∧ r ≤ 255) ∧ At b i' := by
  obtain ⟨hb, h0, h1⟩ := hi
  unfold spec_l01Byte.f
  by_cases c : i < (b.length : Int)
  · rw [if_pos c, if_pos h0]
    refine ⟨_, _, _, rfl, and255_range _, hb, ?_⟩
    rw [w64 (by omega) (by omega)]
    omega
  · rw [if_neg c]
    exact ⟨_, _, _, rfl, and255_range _, hb, h0, h1⟩
theorem l01Below_is (b : List Int) (i h : Int) (hi : At b i) (n : Int) (hn : 0 < n) : ∃ r i' h', spec_l01Below.f b i h n = some (r, i', h') ∧ (0 ≤ r ∧ r < n) ∧ At b i' := by
  unfold spec_l01Below.f
  rw [if_neg (by omega)]
  by_cases c : n ≤ 256
  · obtain ⟨r, i', h', e, hr, ha⟩ := l01Byte_is b i h hi
    rw [if_pos c, e, Option.bind_some, if_neg (by omega)]
    refine ⟨_, _, _, rfl, ?_, ha⟩
    show 0 ≤ Int.tmod r n ∧ Int.tmod r n < n
    rw [tmod_e hr.1]
    exact ⟨Int.emod_nonneg _ (by omega), Int.emod_lt_of_pos _ hn⟩
  · obtain ⟨r1, i1, h1, e1, b1, a1⟩ := l01Byte_is b i h hi
    obtain ⟨r2, i2, h2, e2, b2, a2⟩ := l01Byte_is b i1 h1 a1
    obtain ⟨r3, i3, h3, e3, b3, a3⟩ := l01Byte_is b i2 h2 a2
    obtain ⟨r4, i4, h4, e4, b4, a4⟩ := l01Byte_is b i3 h3 a3
    rw [if_neg c, e1, Option.bind_some, e2, Option.bind_some, e3, Option.bind_some, e4, Option.bind_some, if_neg (by omega)]
    refine ⟨_, _, _, rfl, ?_, a4⟩
    show 0 ≤ Int.tmod (wrap64 (wrap64 (wrap64 (wrap64 (r1 * 16777216) + wrap64 (r2 * 65536)) + wrap64 (r3 * 256)) + r4)) n ∧ Int.tmod (wrap64 (wrap64 (wrap64 (wrap64 (r1 * 16777216) + wrap64 (r2 * 65536)) + wrap64 (r3 * 256)) + r4)) n < n
    have hx : 0 ≤ wrap64 (wrap64 (wrap64 (wrap64 (r1 * 16777216) + wrap64 (r2 * 65536)) + wrap64 (r3 * 256)) + r4) := by
      rw [w64 (n := r1 * 16777216) (by omega) (by omega), w64 (n := r2 * 65536) (by omega) (by omega), w64 (n := r3 * 256) (by omega) (by omega), w64 (n := r1 * 16777216 + r2 * 65536) (by omega) (by omega),
        w64 (n := r1 * 16777216 + r2 * 65536 + r3 * 256) (by omega) (by omega), w64 (by omega) (by omega)]
      omega
    rw [tmod_e hx]
    exact ⟨Int.emod_nonneg _ (by omega), Int.emod_lt_of_pos _ hn⟩

/-! ### drawPlaces -/
theorem drawPlaces_l0 (b : List Int) (d : Nat) : ∀ (k i : Nat) (p : List Int) (j h : Int), 12 - i ≤ d → d < k → i ≤ 12 → p.length = i → (∀ x ∈ p, 0 ≤ x ∧ x < 10000) → At b j →
    ∃ q, spec_DrawPlaces.l0 k p (i : Int) b j h = some q ∧ q.length = 12 ∧ ∀ x ∈ q, 0 ≤ x ∧ x < 10000 := by
  induction d with
  | zero =>
    intro k i p j h hd hk hi hl hp ha
    obtain ⟨k, rfl⟩ : ∃ m, k = m + 1 := ⟨k - 1, by omega⟩
    rw [spec_DrawPlaces.l0, if_neg (by omega)]
    exact ⟨_, rfl, by omega, hp⟩
  | succ d ih =>
    intro k i p j h hd hk hi hl hp ha
    obtain ⟨k, rfl⟩ : ∃ m, k = m + 1 := ⟨k - 1, by omega⟩
    by_cases c : (i : Int) < 12
    · obtain ⟨r, j', h', e, hr, ha'⟩ := l01Below_is b j h ha 10000 (by omega)
      rw [spec_DrawPlaces.l0, if_pos c, e, Option.bind_some, if_pos (by omega), w64_len (n := 12) (by omega) (by omega)]
      refine ih k (i + 1) _ _ _ (by omega) (by omega) (by omega) (by simp; omega) ?_ ha'
      intro x hx
      rw [List.mem_append, List.mem_singleton] at hx
      rcases hx with hx | rfl
      · exact hp x hx
      · exact hr
    · rw [spec_DrawPlaces.l0, if_neg c]
      exact ⟨_, rfl, by omega, hp⟩
theorem drawPlaces_is (b : List Int) (hb : b.length ≤ 140737488351232) (k : Nat) (hk : 4001 ≤ k) : ∃ q, spec_DrawPlaces.f k b = some q ∧ q.length = 12 ∧ ∀ x ∈ q, 0 ≤ x ∧ x < 10000 := by
  unfold spec_DrawPlaces.f
  obtain ⟨h, e⟩ := l01New_is b hb k hk
  have ha : At b 0 := ⟨hb, by omega, by omega⟩
  obtain ⟨r, j', h', e2, hr, ha'⟩ := l01Byte_is b 0 h ha
  rw [e, Option.bind_some]
  obtain ⟨q, hq⟩ := drawPlaces_l0 b 12 k 0 [] j' h' (by omega) (by omega) (by omega) rfl (by simp) ha'
  refine ⟨q, ?_, hq.2⟩
  show (spec_l01Byte.f b 0 h).bind _ = _
  rw [e2, Option.bind_some]
  exact hq.1

/-! ### FnTurned -/
theorem l01Text_l0 (b : List Int) (n : Nat) (hn : n ≤ 5000) (d : Nat) : ∀ (k i : Nat) (xs : List Int) (j h : Int), n - i = d → d < k → i ≤ n → xs.length = i → At b j → ∃ t j' h', spec_l01Text.l0 k (n : Int) xs (i : Int) b j h = some (t, j', h') ∧ t.size = n := by
  induction d with
  | zero =>
    intro k i xs j h hd hk hi hl ha
    obtain ⟨k, rfl⟩ : ∃ k', k = k' + 1 := ⟨k - 1, by omega⟩
    rw [spec_l01Text.l0, if_neg (by omega)]
    exact ⟨_, _, _, rfl, by rw [str_size]; omega⟩
  | succ d ih =>
    intro k i xs j h hd hk hi hl ha
    obtain ⟨k, rfl⟩ : ∃ k', k = k' + 1 := ⟨k - 1, by omega⟩
    obtain ⟨r, j1, h1, e1, _, a1⟩ := l01Byte_is b j h ha
    rw [spec_l01Text.l0, if_pos (by omega), e1, Option.bind_some, if_pos (by omega), w64_len (n := n) (by omega) (by omega)]
    exact ih k (i + 1) _ _ _ (by omega) (by omega) (by omega) (by rw [List.length_append, List.length_singleton]; omega) a1
theorem drawSumOf_is (b : List Int) (hb : b.length ≤ 140737488351232) (k : Nat) (hk : 4100 ≤ k) : ∃ s, spec_DrawSumOf.f k b = some s ∧ s.size ≤ 40 := by
  unfold spec_DrawSumOf.f
  obtain ⟨h, e⟩ := l01New_is b hb k (by omega)
  obtain ⟨r, j1, h1, e1, hr, a1⟩ := l01Below_is b 0 h ⟨hb, by omega, by omega⟩ 40 (by omega)
  rw [e, Option.bind_some, e1, Option.bind_some]
  obtain ⟨m, rfl⟩ := Int.eq_ofNat_of_zero_le hr.1
  obtain ⟨k, rfl⟩ : ∃ k', k = k' + 1 := ⟨k - 1, by omega⟩
  obtain ⟨t, j2, h2, e2, ht⟩ := l01Text_l0 b m (by omega) m k 0 [] j1 h1 (by omega) (by omega) (by omega) rfl a1
  refine ⟨t, ?_, by omega⟩
  unfold spec_l01Text.f
  show ((if ((m : Nat) : Int) > 5000 then _ else spec_l01Text.j0 (k + 1) ((m : Nat) : Int) b j1 h1).bind _ : Option _) = _
  rw [if_neg (by omega), spec_l01Text.j0]
  show ((spec_l01Text.l0 k ((m : Nat) : Int) [] 0 b j1 h1).bind _ : Option _) = _
  rw [show (0 : Int) = ((0 : Nat) : Int) from rfl, e2, Option.bind_some]
theorem bs_turned (t : ByteArray) (i : Nat) (x : Int) (hx : 0 ≤ x ∧ x ≤ 255) : bs (turnedB t i x) = (bs t).set i x := by
  unfold turnedB bs
  show (List.map (fun b : UInt8 => (b.toNat : Int)) (t.data.toList.set i (UInt8.ofNat x.toNat))) = _
  rw [List.map_set]
  congr 1
  rw [UInt8.toNat_ofNat']
  omega
theorem turned_not (s : ByteArray) (hs : s.size ≤ 40) (i : Nat) (x : Int) (hx : 0 ≤ x ∧ x ≤ 255) (hi : i < s.size + 4) (hne : (bs (s ++ strOfNums (four (sumOfN s))))[i]? ≠ some x) :
    unsealedR (turnedB (s ++ strOfNums (four (sumOfN s))) i x) = (⟨#[]⟩, false) := by
  have hbt : bs (s ++ strOfNums (four (sumOfN s))) = bs s ++ four (sumOfN s) := by rw [bs_append, bs_str (four_range _)]
  have hu := bs_turned (s ++ strOfNums (four (sumOfN s))) i x hx
  rw [hbt] at hu hne
  have hlen : (turnedB (s ++ strOfNums (four (sumOfN s))) i x).size = s.size + 4 := by
    rw [← bs_length, hu, List.length_set, List.length_append, bs_length]; rfl
  generalize turnedB (s ++ strOfNums (four (sumOfN s))) i x = u at hu hlen
  unfold unsealedR
  rw [if_neg]
  rintro ⟨_, _, hf⟩
  unfold sealFits at hf
  have hbody : bs (bodyOf u) = (bs u).take s.size := by
    unfold bodyOf
    rw [bs_extract, List.drop_zero]
    congr 1
    omega
  have hseal : bs (sealOf u) = (bs u).drop s.size := by
    unfold sealOf
    rw [bs_extract, show u.size - 4 = s.size by omega, List.take_of_length_le (by rw [List.length_drop, bs_length]; omega)]
  have hr := sumOfN_range s
  have hr2 := sumOfN_range (bodyOf u)
  by_cases c : i < s.size
  · have h1 : bs (sealOf u) = four (sumOfN s) := by
      rw [hseal, hu, List.set_append_left _ _ (by rw [bs_length]; exact c), List.drop_left' (by rw [List.length_set, bs_length])]
    have h2 : bs (bodyOf u) = (bs s).set i x := by
      rw [hbody, hu, List.set_append_left _ _ (by rw [bs_length]; exact c), List.take_left' (by rw [List.length_set, bs_length])]
    rw [h1] at hf
    have he := four_inj hr hr2 hf
    unfold sumOfN at he
    rw [h2] at he
    have hg := sumMoreN_set (bs s) (fun c hc => bs_range hc) x hx i (by rw [bs_length]; exact c) 4294967295 (by omega) he.symm
    apply hne
    rw [List.getElem?_append_left (by rw [bs_length]; exact c), List.getElem?_eq_getElem (by rw [bs_length]; exact c), hg]
  · have h2 : bs (bodyOf u) = bs s := by
      rw [hbody, hu, List.set_append_right _ _ (by rw [bs_length]; omega), List.take_left' (by rw [bs_length])]
    have hb : bodyOf u = s := bs_inj h2
    have h1 : bs (sealOf u) = (four (sumOfN s)).set (i - s.size) x := by
      rw [hseal, hu, List.set_append_right _ _ (by rw [bs_length]; omega), List.drop_left' (by rw [bs_length]), bs_length]
    rw [h1, hb] at hf
    apply hne
    rw [List.getElem?_append_right (by rw [bs_length]; omega), bs_length, ← hf, List.getElem?_set_self (by rw [four_length]; omega)]
theorem sealed_fits (s : ByteArray) (hs : s.size ≤ 40) : unsealedR (s ++ strOfNums (four (sumOfN s))) = (s, true) := by
  have hbt : bs (s ++ strOfNums (four (sumOfN s))) = bs s ++ four (sumOfN s) := by rw [bs_append, bs_str (four_range _)]
  have hlen : (s ++ strOfNums (four (sumOfN s))).size = s.size + 4 := by rw [ByteArray.size_append, str_size]; rfl
  generalize s ++ strOfNums (four (sumOfN s)) = u at hbt hlen
  have hbody : bodyOf u = s := by
    refine bs_inj ?_
    unfold bodyOf
    rw [bs_extract, List.drop_zero, hbt, List.take_left' (by rw [bs_length]; omega)]
  have hseal : bs (sealOf u) = four (sumOfN s) := by
    unfold sealOf
    rw [bs_extract, hbt, List.drop_left' (by rw [bs_length]; omega), List.take_of_length_le (by rw [four_length]; omega)]
  unfold unsealedR
  rw [if_pos ⟨by omega, by omega, by unfold sealFits; rw [hseal, hbody]⟩, hbody]
theorem FnTurned : laws_FnTurned.Pure := by
  intro b _ hb _
  have hl : b.length ≤ 140737488351232 := by omega
  unfold laws_big.f
  by_cases hbig : (b.length : Int) > 1048576
  · exact .inl (by rw [decide_eq_true hbig])
  refine .inr ⟨by rw [decide_eq_false hbig], ?_⟩
  obtain ⟨s, es, hs⟩ := drawSumOf_is b hl 10000 (by omega)
  obtain ⟨p, ep, hp, hpr⟩ := drawPlaces_is b hl 10000 (by omega)
  have hseal : sealedR s = (s ++ strOfNums (four (sumOfN s)), true) := by unfold sealedR; rw [if_pos (by omega)]
  have hlen : (s ++ strOfNums (four (sumOfN s))).size = s.size + 4 := by rw [ByteArray.size_append, str_size]; rfl
  have hfit := sealed_fits s hs
  have hrd : ∀ j : Nat, j < 12 → 0 ≤ rd p (j : Int) ∧ rd p (j : Int) < 10000 := by
    intro j hj
    refine hpr _ ?_
    unfold rd
    rw [Int.toNat_natCast, List.getD_eq_getElem?_getD, List.getElem?_eq_getElem (by omega), Option.getD_some]
    exact List.getElem_mem _
  have h0 := hrd 0 (by omega)
  have h1 := hrd 1 (by omega)
  rw [show ((0 : Nat) : Int) = 0 from rfl] at h0
  rw [show ((1 : Nat) : Int) = 1 from rfl] at h1
  have hnot := fun i x => turned_not s hs i x
  generalize s ++ strOfNums (four (sumOfN s)) = t at *
  have hi : Int.tmod (rd p 0) (t.size : Int) = (((rd p 0).toNat % t.size : Nat) : Int) := by
    obtain ⟨m, hm⟩ := Int.eq_ofNat_of_zero_le h0.1
    rw [hm, tmod_e (by omega), Int.toNat_natCast]
    rfl
  have hit : (rd p 0).toNat % t.size < t.size := Nat.mod_lt _ (by omega)
  generalize (rd p 0).toNat % t.size = i at hi hit
  have hbr := bt_range t (i : Int)
  have hE : (wrap64 (1 + Int.tmod (rd p 1) 255)) % 256 = 1 + rd p 1 % 255 := by
    rw [tmod_e h1.1, w64 (by omega) (by omega)]
    omega
  have hx : Go.bits .xor .u8 (bt t (i : Int)) ((wrap64 (1 + Int.tmod (rd p 1) 255)) % 256) = (((bt t (i : Int)).toNat ^^^ (1 + rd p 1 % 255).toNat : Nat) : Int) := by
    rw [hE]
    exact u8_xor _ _ hbr.1 (by omega) (by omega) (by omega)
  have hx255 : (bt t (i : Int)).toNat ^^^ (1 + rd p 1 % 255).toNat < 256 := Nat.xor_lt_two_pow (n := 8) (by omega) (by omega)
  have hxne : (bt t (i : Int)).toNat ^^^ (1 + rd p 1 % 255).toNat ≠ (bt t (i : Int)).toNat := by
    intro e
    have e2 : (bt t (i : Int)).toNat ^^^ (1 + rd p 1 % 255).toNat = (bt t (i : Int)).toNat ^^^ 0 := by rw [e, Nat.xor_zero]
    have := nxor_cancel e2
    omega
  generalize (bt t (i : Int)).toNat ^^^ (1 + rd p 1 % 255).toNat = x at hx hx255 hxne
  have hun := hnot i (x : Int) (by omega) (by omega) (by
    rw [bs_get t i hit]
    intro e
    have := Option.some.inj e
    omega)
  have htz : (turnedB t i (x : Int)).size = t.size := by rw [← bs_length, bs_turned t i _ (by omega), List.length_set, bs_length]
  have hsx : (s ++ (⟨#[120]⟩ : ByteArray)).size = s.size + 1 := by rw [ByteArray.size_append]; rfl
  refine ⟨10000, s, p, t, ⟨#[]⟩, _, _, i, (x : Int), es, ep, ?_, ?_, hlen, by omega, by omega, hi, hit, hx, by omega, by omega, ?_, implSumOf_is s (by omega) _ (by omega), implSumMore_is _ _ (by show (1 : Nat) ≤ _; omega) _ (by show 10 * 1 < _; omega), ?_⟩
  · rw [implSealed_is s (by omega) _ (by omega), hseal]
  · rw [implUnsealed_is t (by omega) _ (by omega), hfit]
  · rw [implUnsealed_is _ (by omega) _ (by omega), hun]
  · rw [implSumOf_is _ (by omega) _ (by omega), bs_append, sumMoreN_append]

end Go.Proofs.Ytigibdkgimgknaa.Pure
