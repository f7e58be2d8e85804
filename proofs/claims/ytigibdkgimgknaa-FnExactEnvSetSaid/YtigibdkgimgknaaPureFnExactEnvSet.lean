/- FnExactEnvSet without Go: at every list of names, name and number the program's EnvSet and the reference's answer the same, and what is marked is read again. -/
import Derived.Test.YtigibdkgimgknaaMFnExactEnvSetok
set_option linter.unusedVariables false
set_option linter.unusedSimpArgs false
set_option maxHeartbeats 400000
namespace Go.Proofs.Ytigibdkgimgknaa.Pure
open Go.RowKit Go.Proofs.Ytigibdkgimgknaa.MFnExactEnvSet Go.Proofs.YtigibdkgimgknaaW.PrintWords Go.Proofs.YtigibdkgimgknaaW.PrintLast
/-! ### base -/
theorem w64 {n : Int} (h : -9223372036854775808 ≤ n) (h' : n ≤ 9223372036854775807) : wrap64 n = n := by unfold wrap64; omega
theorem w64_succ {i m : Nat} (h : i < m) (hm : m ≤ 140737488351232) : wrap64 ((i : Int) + 1) = ((i + 1 : Nat) : Int) := by
  rw [w64 (by omega) (by omega)]; omega
theorem w64_bt (s : ByteArray) (i : Int) : wrap64 (bt s i) = bt s i := by
  have := bt_range s i
  exact w64 (by omega) (by omega)
/-- A string's bytes as numbers. -/
def bs (s : ByteArray) : List Int := s.data.toList.map fun b => (b.toNat : Int)
theorem bs_length (s : ByteArray) : (bs s).length = s.size := by simp [bs]
theorem bs_get (s : ByteArray) (i : Nat) (h : i < s.size) : (bs s)[i]? = some (bt s i) := by
  have h2 : i < s.data.toList.length := by simpa using h
  simp only [bs, List.getElem?_map, List.getElem?_eq_getElem h2, Option.map_some]
  unfold bt
  rw [dif_pos (by simpa using h)]
  rfl
theorem bs_drop (s : ByteArray) (i : Nat) (h : i < s.size) : (bs s).drop i = bt s i :: (bs s).drop (i + 1) := by
  have h2 : i < (bs s).length := by rw [bs_length]; exact h
  rw [List.drop_eq_getElem_cons h2]
  congr 1
  have := bs_get s i h
  rw [List.getElem?_eq_getElem h2] at this
  exact Option.some.inj this
theorem bs_drop_nil (s : ByteArray) (i : Nat) (h : s.size ≤ i) : (bs s).drop i = [] := List.drop_eq_nil_of_le (by rw [bs_length]; exact h)
theorem bs_range {s : ByteArray} {c : Int} (h : c ∈ bs s) : 0 ≤ c ∧ c ≤ 255 := by
  simp only [bs, List.mem_map] at h
  obtain ⟨b, _, rfl⟩ := h
  have := b.toNat_lt
  omega
theorem bs_inj {s t : ByteArray} (h : bs s = bs t) : s = t := by
  have hd : s.data.toList = t.data.toList := by
    refine List.map_inj_right (f := fun b : UInt8 => (b.toNat : Int)) (fun a b hab => ?_) |>.1 h
    have hab2 : (a.toNat : Int) = b.toNat := hab
    exact UInt8.toNat_inj.1 (by omega)
  cases s; cases t
  simp only [ByteArray.mk.injEq]
  exact Array.toList_inj.1 hd
theorem bs_str {xs : List Int} (h : ∀ x ∈ xs, 0 ≤ x ∧ x ≤ 255) : bs (strOfNums xs) = xs := by
  unfold bs strOfNums
  simp only [List.map_map]
  conv => rhs; rw [← List.map_id xs]
  refine List.map_congr_left fun x hx => ?_
  have := h x hx
  simp only [Function.comp, id, UInt8.toNat_ofNat']
  omega
theorem str_bs (s : ByteArray) : strOfNums (bs s) = s := bs_inj (bs_str fun _ hx => bs_range hx)
theorem str_size (xs : List Int) : (strOfNums xs).size = xs.length := by
  show ((xs.map fun n => UInt8.ofNat n.toNat).toArray).size = xs.length
  simp
theorem bs_append (s t : ByteArray) : bs (s ++ t) = bs s ++ bs t := by
  simp [bs]
theorem bs_empty : bs (⟨#[]⟩ : ByteArray) = [] := rfl
theorem bt_str {xs : List Int} (h : ∀ x ∈ xs, 0 ≤ x ∧ x ≤ 255) (i : Nat) (hi : i < xs.length) : bt (strOfNums xs) i = rd xs i := by
  have h1 := bs_get (strOfNums xs) i (by rw [str_size]; exact hi)
  rw [bs_str h] at h1
  unfold rd
  rw [List.getD_eq_getElem?_getD, Int.toNat_natCast, h1]
  rfl
theorem bt_bs (s : ByteArray) (i : Int) : bt s i = rd (bs s) i := by
  unfold rd
  rw [List.getD_eq_getElem?_getD]
  by_cases h : i.toNat < s.size
  · have := bs_get s i.toNat h
    rw [this]
    unfold bt
    simp only [Int.toNat_natCast]
    rw [dif_pos h]
    rfl
  · rw [List.getElem?_eq_none (by rw [bs_length]; omega)]
    unfold bt
    rw [dif_neg h]
    rfl
theorem toList_eq {s t : ByteArray} : s.toList = t.toList ↔ s = t := by
  rw [ByteArray.toList_eq, ByteArray.toList_eq]
  constructor
  · intro h; cases s; cases t; simpa [Array.toList_inj] using h
  · rintro rfl; rfl
theorem tdiv_e {n : Int} (h : 0 ≤ n) (m : Int) : Int.tdiv n m = n / m := Int.tdiv_eq_ediv_of_nonneg h
theorem tmod_e {n : Int} (h : 0 ≤ n) (m : Int) : Int.tmod n m = n % m := Int.tmod_eq_emod_of_nonneg h

/-! ### lists -/
theorem drop_get {α : Type} (xs : List α) (i : Nat) (h : i < xs.length) : xs.drop i = xs[i] :: xs.drop (i + 1) := List.drop_eq_getElem_cons h
theorem w64_len {i n : Nat} (h : i < n) (hn : n ≤ 9223372036854775807) : wrap64 ((i : Int) + 1) = ((i + 1 : Nat) : Int) := by
  rw [w64 (by omega) (by omega)]; omega
theorem take_set {α : Type} (acc : List α) (i : Nat) (v : α) (h : i < acc.length) : (acc.set i v).take (i + 1) = acc.take i ++ [v] := by
  rw [List.take_add_one, List.getElem?_set_self h, List.take_set_of_le (Nat.le_refl i)]; rfl

/-! ### lawsVar -/
/-! what the laws' own small functions tell of names and numbers -/
theorem rdL (xs : List S92) (i : Nat) (h : i < xs.length) : rd_T92 xs (i : Int) = xs[i] := by simp [rd_T92, List.getD, h]
theorem rdI (xs : List S51) (i : Nat) (h : i < xs.length) : rd_T51 xs (i : Int) = xs[i] := by simp [rd_T51, List.getD, h]
def szOk (xs : List S92) : Prop := xs.length ≤ 1048576 ∧ ∀ y ∈ xs, y.f0.size ≤ 1048576
theorem szVarS_l0 (xs : List S92) (hx : ∀ y ∈ xs, ok92 y) (hl : xs.length ≤ 9223372036854775807) (d : Nat) : ∀ (k i : Nat) (left : Int), xs.length - i ≤ d → d < k → 0 ≤ left → left ≤ 1048576 →
    ∃ r, laws_szVarS.l0 k xs left (i : Int) = some r ∧ (0 ≤ r → r ≤ 1048576 ∧ ∀ y ∈ xs.drop i, y.f0.size ≤ 1048576) := by
  induction d with
  | zero =>
    intro k i left hd hk h0 h1
    obtain ⟨k, rfl⟩ : ∃ m, k = m + 1 := ⟨k - 1, by omega⟩
    refine ⟨left, ?_, fun _ => ⟨h1, ?_⟩⟩
    · rw [laws_szVarS.l0, if_neg (by omega)]
    · rw [List.drop_eq_nil_of_le (by omega)]; simp
  | succ d ih =>
    intro k i left hd hk h0 h1
    obtain ⟨k, rfl⟩ : ∃ m, k = m + 1 := ⟨k - 1, by omega⟩
    by_cases hi : i < xs.length
    · have hs : xs[i].f0.size ≤ 9223372036854775807 := by have := (hx xs[i] (List.getElem_mem hi)).1; unfold maxLen at this; exact this
      rw [laws_szVarS.l0, if_pos (by omega), if_pos (by omega), rdL xs i hi, w64_len hi hl]
      unfold laws_szVar.f
      rw [w64 (n := left - (xs[i].f0.size : Int)) (by omega) (by omega)]
      by_cases h2 : left - (xs[i].f0.size : Int) < 0
      · rw [if_pos h2, Option.bind_some, if_pos (by omega)]
        exact ⟨-1, rfl, fun h => absurd h (by omega)⟩
      · rw [if_neg h2, Option.bind_some, if_neg h2]
        obtain ⟨r, hr, hp⟩ := ih k (i + 1) (left - (xs[i].f0.size : Int)) (by omega) (by omega) (by omega) (by omega)
        refine ⟨r, hr, fun h => ?_⟩
        obtain ⟨p1, p2⟩ := hp h
        refine ⟨p1, fun y hy => ?_⟩
        rw [drop_get xs i hi, List.mem_cons] at hy
        rcases hy with rfl | hy
        · omega
        · exact p2 y hy
    · refine ⟨left, ?_, fun _ => ⟨h1, ?_⟩⟩
      · rw [laws_szVarS.l0, if_neg (by omega)]
      · rw [List.drop_eq_nil_of_le (by omega)]; simp
theorem szVarS_is (xs : List S92) (hx : ∀ y ∈ xs, ok92 y) (hl : xs.length ≤ 9223372036854775807) (left : Int) (h0 : 0 ≤ left) (h1 : left ≤ 1048576) (k : Nat) (hk : xs.length < k) :
    ∃ r, laws_szVarS.f k xs left = some r ∧ (0 ≤ r → r ≤ 1048576 ∧ szOk xs) := by
  unfold laws_szVarS.f
  rw [w64 (n := left - (xs.length : Int)) (by omega) (by omega)]
  by_cases h2 : left - (xs.length : Int) < 0
  · rw [if_pos h2]; exact ⟨-1, rfl, fun h => absurd h (by omega)⟩
  · rw [if_neg h2]
    obtain ⟨r, hr, hp⟩ := szVarS_l0 xs hx hl xs.length k 0 (left - (xs.length : Int)) (by omega) hk (by omega) (by omega)
    refine ⟨r, hr, fun h => ?_⟩
    obtain ⟨p1, p2⟩ := hp h
    exact ⟨p1, by omega, by simpa using p2⟩
/-- A name and its number, as the program has them. -/
def toV (x : S92) : S51 := ⟨x.f0, x.f1⟩
theorem toVarS_l0 (xs : List S92) (hl : xs.length ≤ 1048576) (d : Nat) : ∀ (k i : Nat) (acc : List S51), xs.length - i ≤ d → d < k → i ≤ xs.length → acc.length = xs.length → acc.take i = (xs.take i).map toV →
    laws_toVarS.l0 k xs acc (i : Int) = some (xs.map toV) := by
  induction d with
  | zero =>
    intro k i acc hd hk hi ha ht
    obtain ⟨k, rfl⟩ : ∃ m, k = m + 1 := ⟨k - 1, by omega⟩
    rw [laws_toVarS.l0, if_neg (by omega)]
    rw [show i = xs.length from by omega, List.take_length, ← ha, List.take_length] at ht
    rw [ht]
  | succ d ih =>
    intro k i acc hd hk hi ha ht
    obtain ⟨k, rfl⟩ : ∃ m, k = m + 1 := ⟨k - 1, by omega⟩
    by_cases hi2 : i < xs.length
    · rw [laws_toVarS.l0, if_pos (by omega), if_pos (by omega), rdL xs i hi2]
      unfold laws_toVar.f
      rw [Option.bind_some, if_pos (by omega), w64_len hi2 (by omega), show ((i : Int)).toNat = i from by omega]
      refine ih k (i + 1) _ (by omega) (by omega) (by omega) (by rw [List.length_set]; exact ha) ?_
      rw [take_set acc i _ (by omega), ht, List.take_add_one, List.getElem?_eq_getElem hi2, List.map_append]
      rfl
    · rw [laws_toVarS.l0, if_neg (by omega)]
      rw [show i = xs.length from by omega, List.take_length, ← ha, List.take_length] at ht
      rw [ht]
theorem toVarS_is (xs : List S92) (hl : xs.length ≤ 1048576) (k : Nat) (hk : xs.length < k) : laws_toVarS.f k xs = some (xs.map toV) := by
  unfold laws_toVarS.f
  rw [if_pos (by omega), if_pos (by omega)]
  exact toVarS_l0 xs hl xs.length k 0 _ (by omega) hk (by omega) (by simp) (by simp)
theorem eqVarS_l0 (xs : List S51) (hl : xs.length ≤ 9223372036854775807) (d : Nat) : ∀ (k i : Nat), xs.length - i ≤ d → d < k → laws_eqVarS.l0 k xs xs (i : Int) = some true := by
  induction d with
  | zero =>
    intro k i hd hk
    obtain ⟨k, rfl⟩ : ∃ m, k = m + 1 := ⟨k - 1, by omega⟩
    rw [laws_eqVarS.l0, if_neg (by omega)]
  | succ d ih =>
    intro k i hd hk
    obtain ⟨k, rfl⟩ : ∃ m, k = m + 1 := ⟨k - 1, by omega⟩
    by_cases hi : i < xs.length
    · rw [laws_eqVarS.l0, if_pos (by omega), if_pos (by omega), if_pos (by omega)]
      unfold laws_eqVar.f
      simp only [if_true, Option.bind_some]
      rw [w64_len hi hl]
      exact ih k (i + 1) (by omega) (by omega)
    · rw [laws_eqVarS.l0, if_neg (by omega)]
theorem eqVarS_self (xs : List S51) (hl : xs.length ≤ 9223372036854775807) (k : Nat) (hk : xs.length < k) : laws_eqVarS.f k xs xs = some true := by
  unfold laws_eqVarS.f
  rw [if_pos rfl]
  exact eqVarS_l0 xs hl xs.length k 0 (by omega) hk

/-! ### marks -/
/-! the laws' marks: what is written into a list of names is read again -/
theorem mono_le {α : Type} {f : Nat → Option α} (h : ∀ k, LeO (f k) (f (k + 1))) {a b : Nat} (hab : a ≤ b) : LeO (f a) (f b) := by
  induction hab with
  | refl => exact LeO.refl _
  | step _ ih => exact LeO.trans ih (h _)
theorem markText_l0 (d : Nat) : ∀ (n : Int) (acc : ByteArray) (k : Nat), 0 ≤ n → n ≤ 9223372036854775807 → n < (10 : Int) ^ d → acc.size + d ≤ 1000 → d < k → ∃ t, laws_markText.l0 k n acc = some t := by
  induction d with
  | zero =>
    intro n acc k h0 hbig h1 hs hk
    obtain ⟨k, rfl⟩ : ∃ m, k = m + 1 := ⟨k - 1, by omega⟩
    have h1' : n < 1 := by simpa using h1
    rw [laws_markText.l0, if_neg (by omega), if_pos (by omega)]
    exact ⟨_, rfl⟩
  | succ d ih =>
    intro n acc k h0 hbig h1 hs hk
    obtain ⟨k, rfl⟩ : ∃ m, k = m + 1 := ⟨k - 1, by omega⟩
    by_cases hn : n > 0
    · have hsz : ∀ x : Int, (strOfNums [x]).size = 1 := fun x => str_size [x]
      have hq : wrap64 (Int.tdiv n 10) = n / 10 := by rw [tdiv_e h0, w64 (by omega) (by omega)]
      rw [laws_markText.l0, if_pos hn, Option.bind_some, hsz, if_pos (by omega), hq]
      refine ih _ _ k (by omega) (by omega) ?_ ?_ (by omega)
      · rw [Int.pow_succ] at h1; omega
      · rw [ByteArray.size_append, hsz]; omega
    · rw [laws_markText.l0, if_neg hn, if_pos (by omega)]
      exact ⟨_, rfl⟩
/-- The text that a number is marked with. -/
def mkT (a : Int) : ByteArray := (laws_markText.f 14 a).getD ⟨#[]⟩
theorem mkT_is (a : Int) (h0 : 0 ≤ a) (h1 : a ≤ 1000000000000) (k : Nat) (hk : 14 ≤ k) : laws_markText.f k a = some (mkT a) := by
  have ht : ∃ t, laws_markText.f 14 a = some t := by
    unfold laws_markText.f
    by_cases h : a ≤ 0
    · rw [if_pos h]; exact ⟨_, rfl⟩
    · rw [if_neg h]
      exact markText_l0 13 a _ 14 h0 (by omega) (by omega) (by show 0 + 13 ≤ 1000; omega) (by omega)
  obtain ⟨t, ht⟩ := ht
  have := mono_le (f := fun k => laws_markText.f k a) (fun k => laws_markText.mono a k) hk t ht
  unfold mkT
  rw [ht]
  exact this
def marked : List S51 → Int → List S51
  | [], _ => []
  | _ :: l, a => ⟨mkT a, a + 1⟩ :: marked l (a + 2)
theorem marked_length (xs : List S51) : ∀ a, (marked xs a).length = xs.length := by
  induction xs with
  | nil => intro a; rfl
  | cons x l ih => intro a; simp [marked, ih]
theorem markVarS_l0 (d : Nat) : ∀ (k i : Nat) (xs : List S51) (a : Int), xs.length - i ≤ d → d + 15 ≤ k → i ≤ xs.length → xs.length ≤ 100000000 → 0 ≤ a → a ≤ 1 + 2 * (i : Int) →
    laws_markVarS.l0 k xs a (i : Int) = some (a + 2 * ((xs.length - i : Nat) : Int), xs.take i ++ marked (xs.drop i) a) := by
  induction d with
  | zero =>
    intro k i xs a hd hk hi hl h0 h1
    obtain ⟨k, rfl⟩ : ∃ m, k = m + 1 := ⟨k - 1, by omega⟩
    rw [laws_markVarS.l0, if_neg (by omega), List.drop_eq_nil_of_le (by omega), List.take_of_length_le (by omega), show xs.length - i = 0 from by omega]
    simp [marked]
  | succ d ih =>
    intro k i xs a hd hk hi hl h0 h1
    obtain ⟨k, rfl⟩ : ∃ m, k = m + 1 := ⟨k - 1, by omega⟩
    by_cases hi2 : i < xs.length
    · have e1 : wrap64 (a + 1) = a + 1 := w64 (by omega) (by omega)
      have e2 : wrap64 (a + 1 + 1) = a + 2 := by rw [w64 (by omega) (by omega)]; omega
      have e3 : ∀ v : S51, rd_T51 (xs.set i v) (i : Int) = v := fun v => by rw [rdI _ i (by simpa using hi2)]; simp
      rw [laws_markVarS.l0, if_pos (by omega), mkT_is a h0 (by omega) k (by omega), Option.bind_some, if_pos (by omega), Option.bind_some, e1, e2, w64_len hi2 (by omega), show ((i : Int)).toNat = i from by omega, e3, List.set_set]
      rw [ih k (i + 1) _ (a + 2) (by simp; omega) (by omega) (by simp; omega) (by simp; omega) (by omega) (by omega), take_set xs i _ hi2, drop_get xs i hi2, List.drop_set_of_lt (by omega), List.length_set]
      congr 1
      refine Prod.ext ?_ ?_
      · show a + 2 + 2 * _ = a + 2 * _
        omega
      · simp [marked]
    · rw [laws_markVarS.l0, if_neg (by omega), List.drop_eq_nil_of_le (by omega), List.take_of_length_le (by omega), show xs.length - i = 0 from by omega]
      simp [marked]
theorem markVarS_is (xs : List S51) (hl : xs.length ≤ 100000000) (k : Nat) (hk : xs.length + 15 ≤ k) : laws_markVarS.f k xs 1 = some (1 + 2 * (xs.length : Int), marked xs 1) := by
  unfold laws_markVarS.f
  have := markVarS_l0 xs.length k 0 xs 1 (by omega) hk (by omega) hl (by omega) (by omega)
  simpa using this
theorem heldVarS_l0 (ys : List S51) (hl : ys.length ≤ 100000000) (d : Nat) : ∀ (k i : Nat) (zs : List S51) (a : Int), ys.length - i = d → zs.length = d → ys.drop i = marked zs a → d + 15 ≤ k → i ≤ ys.length → 0 ≤ a → a ≤ 1 + 2 * (i : Int) →
    laws_heldVarS.l0 k ys a (i : Int) = some (a + 2 * (d : Int)) := by
  induction d with
  | zero =>
    intro k i zs a hd hz he hk hi h0 h1
    obtain ⟨k, rfl⟩ : ∃ m, k = m + 1 := ⟨k - 1, by omega⟩
    rw [laws_heldVarS.l0, if_neg (by omega)]
    simp
  | succ d ih =>
    intro k i zs a hd hz he hk hi h0 h1
    obtain ⟨k, rfl⟩ : ∃ m, k = m + 1 := ⟨k - 1, by omega⟩
    have hi2 : i < ys.length := by omega
    match zs, hz, he with
    | z :: zs, hz, he =>
      rw [drop_get ys i hi2, marked, List.cons.injEq] at he
      have e1 : wrap64 (a + 1) = a + 1 := w64 (by omega) (by omega)
      have e2 : wrap64 (a + 1 + 1) = a + 2 := by rw [w64 (by omega) (by omega)]; omega
      rw [laws_heldVarS.l0, if_pos (by omega), if_pos (by omega), mkT_is a h0 (by omega) k (by omega), Option.bind_some, rdI ys i hi2, he.1, if_pos rfl, e1, if_pos rfl, e2, w64_len hi2 (by omega),
        ih k (i + 1) zs (a + 2) (by omega) (by simpa using hz) he.2 (by omega) (by omega) (by omega) (by omega)]
      congr 1
      omega
theorem heldVarS_is (xs : List S51) (hl : xs.length ≤ 100000000) (k : Nat) (hk : xs.length + 15 ≤ k) : laws_heldVarS.f k (marked xs 1) 1 = some (1 + 2 * (xs.length : Int)) := by
  unfold laws_heldVarS.f
  exact heldVarS_l0 (marked xs 1) (by rw [marked_length]; exact hl) xs.length k 0 xs 1 (by rw [marked_length]; omega) rfl rfl hk (by omega) (by omega) (by omega)

/-! ### varNameB -/
/-- 1 to 4 letters a-z. -/
def small (c : Int) : Bool := decide (97 ≤ c ∧ c ≤ 122)
def varNameB (s : ByteArray) : Bool := (bs s).all small && decide (1 ≤ (s.size : Int) ∧ (s.size : Int) ≤ 4)

/-! ### isNumB -/
def numB (n : Int) : Bool := decide (-9999 ≤ n ∧ n ≤ 9999)

/-! ### envOk -/
theorem rdI' (xs : List S51) (i : Nat) (h : i < xs.length) : rd_T51 xs (i : Int) = xs[i] := by simp [rd_T51, List.getD, h]
def lessB (a b : ByteArray) : Bool := Op.bytesLess a.toList b.toList

/-- From a name on, the one ahead of it at hand. -/
def envRest : Option ByteArray → List S51 → Bool
  | _, [] => true
  | p, v :: l => varNameB v.f0 && numB v.f1 && (match p with | none => true | some a => lessB a v.f0) && envRest (some v.f0) l
def envOkB (xs : List S51) : Bool := envRest none xs && decide ((xs.length : Int) ≤ 6)
/-- The name ahead of place i. -/
def ahead (xs : List S51) (i : Nat) : Option ByteArray := if i = 0 then none else some (xs.getD (i - 1) z51).f0
theorem ahead_succ (xs : List S51) (i : Nat) (h : i < xs.length) : ahead xs (i + 1) = some xs[i].f0 := by simp [ahead, List.getD, h]

/-! ### envSet -/
def lesser (n : ByteArray) (xs : List S51) : List S51 := xs.filter fun v => lessB v.f0 n
def greater (n : ByteArray) (xs : List S51) : List S51 := xs.filter fun v => lessB n v.f0
theorem lesser_cons (n : ByteArray) (v : S51) (xs : List S51) : lesser n (v :: xs) = (if lessB v.f0 n = true then [v] else []) ++ lesser n xs := by
  unfold lesser
  rw [List.filter_cons]
  by_cases h : lessB v.f0 n = true
  · rw [if_pos h, if_pos h]; rfl
  · rw [if_neg h, if_neg h]; rfl
theorem greater_cons (n : ByteArray) (v : S51) (xs : List S51) : greater n (v :: xs) = (if lessB n v.f0 = true then [v] else []) ++ greater n xs := by
  unfold greater
  rw [List.filter_cons]
  by_cases h : lessB n v.f0 = true
  · rw [if_pos h, if_pos h]; rfl
  · rw [if_neg h, if_neg h]; rfl
theorem lesser_length (n : ByteArray) (xs : List S51) : (lesser n xs).length ≤ xs.length := List.length_filter_le _ _
theorem greater_length (n : ByteArray) (xs : List S51) : (greater n xs).length ≤ xs.length := List.length_filter_le _ _
/-- The list with a name set, whether it may be or not. -/
def putEnv (xs : List S51) (n : ByteArray) (m : Int) : List S51 := lesser n xs ++ [⟨n, m⟩] ++ greater n xs
def setEnv (xs : List S51) (n : ByteArray) (m : Int) : List S51 × Bool := if envOkB (putEnv xs n m) = true then (putEnv xs n m, true) else (xs, false)
theorem putEnv_mem {B : Nat} {xs : List S51} {n : ByteArray} {m : Int} (hx : ∀ y ∈ xs, y.f0.size ≤ B) (hn : n.size ≤ B) : ∀ y ∈ putEnv xs n m, y.f0.size ≤ B := by
  intro y hy
  unfold putEnv at hy
  simp only [List.mem_append, List.mem_singleton] at hy
  rcases hy with (hy | rfl) | hy
  · exact hx y (List.mem_filter.1 hy).1
  · exact hn
  · exact hx y (List.mem_filter.1 hy).1
theorem putEnv_length (xs : List S51) (n : ByteArray) (m : Int) : (putEnv xs n m).length ≤ 2 * xs.length + 1 := by
  unfold putEnv
  have := lesser_length n xs
  have := greater_length n xs
  simp only [List.length_append, List.length_singleton]
  omega

/-! ### within -/
theorem within_is (a b c : Int) : impl_within.f a b c = some (decide (b ≤ a ∧ a ≤ c)) := by
  unfold impl_within.f
  by_cases h : a ≥ b
  · rw [if_pos h]; simp [show b ≤ a from h]
  · rw [if_neg h]; simp [show ¬ b ≤ a from h]

/-! ### isSmall -/
theorem isSmall_is (s : ByteArray) (i : Int) : impl_isSmall.f (bt s i) = some (decide (97 ≤ bt s i ∧ bt s i ≤ 122)) := by
  unfold impl_isSmall.f
  rw [w64_bt, within_is]; rfl

/-! ### implVarName -/
theorem implVarName_l0 (s : ByteArray) (hs : s.size ≤ 140737488351232) (d : Nat) : ∀ (k i : Nat), s.size - i ≤ d → d < k →
    impl_VarName.l0 k s (s.size : Int) (i : Int) = some (((bs s).drop i).all small && decide (1 ≤ (s.size : Int) ∧ (s.size : Int) ≤ 4)) := by
  induction d with
  | zero =>
    intro k i hd hk
    obtain ⟨k, rfl⟩ : ∃ m, k = m + 1 := ⟨k - 1, by omega⟩
    simp only [impl_VarName.l0]
    rw [if_neg (by omega), within_is, bs_drop_nil s i (by omega)]; simp
  | succ d ih =>
    intro k i hd hk
    obtain ⟨k, rfl⟩ : ∃ m, k = m + 1 := ⟨k - 1, by omega⟩
    by_cases hi : i < s.size
    · have e := ih k (i + 1) (by omega) (by omega)
      simp only [impl_VarName.l0]
      rw [if_pos (by omega), if_pos (by omega), if_pos (by omega), isSmall_is, Option.bind_some, w64_succ hi hs, e, bs_drop s i hi]
      simp only [List.all_cons]
      by_cases h1 : 97 ≤ bt s i ∧ bt s i ≤ 122
      · rw [if_pos (by simpa using h1), show small (bt s i) = true from by simp [small]; omega]; simp
      · rw [if_neg (by simpa using h1), show small (bt s i) = false from by simp [small]; omega]; simp
    · simp only [impl_VarName.l0]
      rw [if_neg (by omega), within_is, bs_drop_nil s i (by omega)]; simp
theorem implVarName_is (s : ByteArray) (hs : s.size ≤ 140737488351232) (k : Nat) (hk : s.size < k) : impl_VarName.f k s = some (varNameB s) := by
  unfold impl_VarName.f
  exact implVarName_l0 s hs s.size k 0 (by omega) hk

/-! ### isNum -/
theorem isNum_is (n : Int) : impl_isNum.f n = some (decide (-9999 ≤ n ∧ n ≤ 9999)) := by
  unfold impl_isNum.f
  rw [within_is]; rfl

/-! ### implEnvOk -/
theorem implEnvOk_l0 (B : Nat) (hB : B ≤ 140737488351232) (xs : List S51) (hx : ∀ y ∈ xs, y.f0.size ≤ B) (hl : xs.length ≤ 9223372036854775807) (d : Nat) : ∀ (k i : Nat), xs.length - i ≤ d → d + B < k →
    impl_EnvOk.l0 k xs xs (xs.length : Int) (i : Int) = some (envRest (ahead xs i) (xs.drop i) && decide ((xs.length : Int) ≤ 6)) := by
  induction d with
  | zero =>
    intro k i hd hk
    obtain ⟨k, rfl⟩ : ∃ m, k = m + 1 := ⟨k - 1, by omega⟩
    rw [impl_EnvOk.l0, if_neg (by omega), List.drop_eq_nil_of_le (by omega)]; simp [envRest]
  | succ d ih =>
    intro k i hd hk
    obtain ⟨k, rfl⟩ : ∃ m, k = m + 1 := ⟨k - 1, by omega⟩
    by_cases hi : i < xs.length
    · have hs : xs[i].f0.size ≤ B := hx _ (List.getElem_mem hi)
      have e := ih k (i + 1) (by omega) (by omega)
      rw [ahead_succ xs i hi] at e
      rw [impl_EnvOk.l0, if_pos (by omega), if_pos (by omega), if_pos (by omega), rdI' xs i hi, implVarName_is _ (by omega) k (by omega), Option.bind_some, w64_len hi hl, e, drop_get xs i hi]
      simp only [envRest]
      by_cases h1 : varNameB xs[i].f0 = true
      · rw [if_pos h1, isNum_is, Option.bind_some, h1, show decide (-9999 ≤ xs[i].f1 ∧ xs[i].f1 ≤ 9999) = numB xs[i].f1 from rfl]
        by_cases h2 : numB xs[i].f1 = true
        · rw [if_pos h2, h2]
          by_cases h3 : (i : Int) > 0
          · have e2 : wrap64 ((i : Int) - 1) = ((i - 1 : Nat) : Int) := by rw [w64 (by omega) (by omega)]; omega
            rw [if_pos h3, e2, if_pos (by omega), if_pos (by omega), rdI' xs (i - 1) (by omega)]
            have ha : ahead xs i = some xs[i - 1].f0 := by
              unfold ahead
              rw [if_neg (by omega)]
              simp [List.getD, List.getElem?_eq_getElem (show i - 1 < xs.length by omega)]
            rw [ha, show Op.bytesLess xs[i - 1].f0.toList xs[i].f0.toList = lessB xs[i - 1].f0 xs[i].f0 from rfl]
            by_cases h4 : lessB xs[i - 1].f0 xs[i].f0 = true
            · rw [if_pos h4]; simp [h4]
            · rw [if_neg h4]; simp [h4]
          · rw [if_neg h3]
            have ha : ahead xs i = none := by unfold ahead; rw [if_pos (by omega)]
            rw [ha]; simp
        · rw [if_neg h2]; simp [h2]
      · rw [if_neg h1]; simp [h1]
    · rw [impl_EnvOk.l0, if_neg (by omega), List.drop_eq_nil_of_le (by omega)]; simp [envRest]
theorem implEnvOk_is (B : Nat) (hB : B ≤ 140737488351232) (xs : List S51) (hx : ∀ y ∈ xs, y.f0.size ≤ B) (hl : xs.length ≤ 9223372036854775807) (k : Nat) (hk : xs.length + B < k) : impl_EnvOk.f k xs = some (envOkB xs) := by
  unfold impl_EnvOk.f
  exact implEnvOk_l0 B hB xs hx hl xs.length k 0 (by omega) hk

/-! ### implEnvSet -/
theorem grow_is (n : Int) (h0 : 0 ≤ n) (h1 : n ≤ 4194304) : impl_Var_100.f n = some [] := by
  unfold impl_Var_100.f
  by_cases h : 0 < n
  · rw [if_pos h, if_pos h1]
  · rw [if_neg h, if_pos (by omega)]
theorem concat3 (a b c : List S51) (ha : a.length ≤ 1048576) (hb : b.length ≤ 1048576) (hc : c.length ≤ 1048576) (k : Nat) (hk : 8 ≤ k) : impl_Var_76.f k [a, b, c] = some (a ++ b ++ c) := by
  obtain ⟨k, rfl⟩ : ∃ m, k = m + 8 := ⟨k - 8, by omega⟩
  unfold impl_Var_76.f
  have r0 : rd_L4 [a, b, c] 0 = a := rfl
  have r1 : rd_L4 [a, b, c] 1 = b := rfl
  have r2 : rd_L4 [a, b, c] 2 = c := rfl
  have ln : (([a, b, c] : List (List S51)).length : Int) = 3 := rfl
  rw [ln, impl_Var_76.l0, if_pos (by omega), if_pos (by omega), if_pos (by rw [ln]; omega), r0, if_neg (by rw [w64 (by omega) (by omega)]; omega), w64 (n := 0 + (a.length : Int)) (by omega) (by omega), show wrap64 (0 + 1) = 1 from w64 (by omega) (by omega)]
  rw [impl_Var_76.l0, if_pos (by omega), if_pos (by omega), if_pos (by rw [ln]; omega), r1, if_neg (by rw [w64 (by omega) (by omega)]; omega), w64 (n := 0 + (a.length : Int) + (b.length : Int)) (by omega) (by omega), show wrap64 (1 + 1) = 2 from w64 (by omega) (by omega)]
  rw [impl_Var_76.l0, if_pos (by omega), if_pos (by omega), if_pos (by rw [ln]; omega), r2, if_neg (by rw [w64 (by omega) (by omega)]; omega), w64 (n := 0 + (a.length : Int) + (b.length : Int) + (c.length : Int)) (by omega) (by omega), show wrap64 (2 + 1) = 3 from w64 (by omega) (by omega)]
  rw [impl_Var_76.l0, if_neg (by omega), grow_is _ (by omega) (by omega), Option.bind_some, ln]
  rw [impl_Var_76.l1, if_pos (by omega), if_pos (by omega), if_pos (by rw [ln]; omega), r0, if_pos (by simp only [List.length_nil]; omega), show wrap64 (0 + 1) = 1 from w64 (by omega) (by omega), List.nil_append]
  rw [impl_Var_76.l1, if_pos (by omega), if_pos (by omega), if_pos (by rw [ln]; omega), r1, if_pos (by omega), show wrap64 (1 + 1) = 2 from w64 (by omega) (by omega)]
  rw [impl_Var_76.l1, if_pos (by omega), if_pos (by omega), if_pos (by rw [ln]; omega), r2, if_pos (by simp only [List.length_append]; omega), show wrap64 (2 + 1) = 3 from w64 (by omega) (by omega)]
  rw [impl_Var_76.l1, if_neg (by omega)]
/-- What EnvSet does behind its loop. -/
def tailSet (k : Nat) (xs : List S51) (n : ByteArray) (m : Int) (lo hi : List S51) : Option (List S51 × Bool) :=
  (impl_Var_76.f k (([lo, (([(⟨n, m⟩ : S51)] : List (S51))), hi] : List (List (S51))))).bind fun t165 => ((impl_EnvOk.f k t165).bind fun t168 => (if t168 = true then (some (t165, true)) else ((impl_copyEnv.f xs).bind fun t169 => (some (t169, false)))))
theorem implEnvSet_l0 (xs : List S51) (n : ByteArray) (m : Int) (hl : xs.length ≤ 1048576) (r : Nat) : ∀ (k i : Nat) (lo hi : List S51), xs.length - i = r → lo.length ≤ i → hi.length ≤ i →
    impl_EnvSet.l0 (k + r + 1) xs n m lo hi xs (xs.length : Int) (i : Int) = tailSet k xs n m (lo ++ lesser n (xs.drop i)) (hi ++ greater n (xs.drop i)) := by
  induction r with
  | zero =>
    intro k i lo hi hr h1 h2
    rw [show k + 0 + 1 = k + 1 from rfl, impl_EnvSet.l0, if_neg (by omega), List.drop_eq_nil_of_le (by omega), show lesser n [] = [] from rfl, show greater n [] = [] from rfl, List.append_nil, List.append_nil]
    rfl
  | succ r ih =>
    intro k i lo hi hr h1 h2
    have hi2 : i < xs.length := by omega
    rw [show k + (r + 1) + 1 = (k + r + 1) + 1 from by omega, impl_EnvSet.l0, if_pos (by omega), if_pos (by omega), if_pos (by omega), rdI xs i hi2, drop_get xs i hi2, lesser_cons, greater_cons, w64_len hi2 (by omega)]
    rw [show Op.bytesLess xs[i].f0.toList n.toList = lessB xs[i].f0 n from rfl, show Op.bytesLess n.toList xs[i].f0.toList = lessB n xs[i].f0 from rfl]
    by_cases c1 : lessB xs[i].f0 n = true
    · rw [if_pos c1, if_pos c1, if_pos (by omega), Option.bind_some]
      by_cases c2 : lessB n xs[i].f0 = true
      · rw [if_pos c2, if_pos c2, if_pos (by omega), ih k (i + 1) _ _ (by omega) (by simp; omega) (by simp; omega)]
        simp only [List.append_assoc]
      · rw [if_neg c2, if_neg c2, ih k (i + 1) _ _ (by omega) (by simp; omega) (by omega)]
        simp only [List.append_assoc, List.nil_append]
    · rw [if_neg c1, if_neg c1]
      by_cases c2 : lessB n xs[i].f0 = true
      · rw [if_pos c2, if_pos c2, if_pos (by omega), ih k (i + 1) _ _ (by omega) (by omega) (by simp; omega)]
        simp only [List.append_assoc, List.nil_append]
      · rw [if_neg c2, if_neg c2, ih k (i + 1) _ _ (by omega) (by omega) (by omega)]
        simp only [List.nil_append]
theorem implEnvSet_is (xs : List S51) (n : ByteArray) (m : Int) (hx : ∀ y ∈ xs, y.f0.size ≤ 1048576) (hn : n.size ≤ 1048576) (hl : xs.length ≤ 1048576) (k : Nat) (hk : 4000000 + xs.length < k) :
    impl_EnvSet.f k xs n m = some (setEnv xs n m) := by
  obtain ⟨k, rfl⟩ : ∃ q, k = q + xs.length + 1 := ⟨k - xs.length - 1, by omega⟩
  unfold impl_EnvSet.f
  rw [show (0 : Int) = ((0 : Nat) : Int) from rfl, implEnvSet_l0 xs n m hl xs.length k 0 [] [] (by omega) (by simp) (by simp), List.drop_zero, List.nil_append, List.nil_append]
  unfold tailSet
  have h1 := lesser_length n xs
  have h2 := greater_length n xs
  have h3 := putEnv_length xs n m
  rw [concat3 _ _ _ (by omega) (by simp) (by omega) k (by omega), Option.bind_some, show lesser n xs ++ [(⟨n, m⟩ : S51)] ++ greater n xs = putEnv xs n m from rfl,
    implEnvOk_is 1048576 (by omega) _ (putEnv_mem hx hn) (by omega) k (by omega), Option.bind_some]
  unfold setEnv
  by_cases c : envOkB (putEnv xs n m) = true
  · rw [if_pos c, if_pos c]
  · rw [if_neg c, if_neg c]
    unfold impl_copyEnv.f
    rw [Option.bind_some, if_pos (by simp only [List.length_nil]; omega), Option.bind_some, List.nil_append]

/-! ### l01In -/
theorem l01In_is (a b c : Int) : spec_l01In.f a b c = some (decide (b ≤ a ∧ a ≤ c)) := by
  unfold spec_l01In.f
  by_cases h : a ≥ b
  · rw [if_pos h]; simp [show b ≤ a from h]
  · rw [if_neg h]; simp [show ¬ b ≤ a from h]

/-! ### specVarName -/
theorem specVarName_l0 (s : ByteArray) (hs : s.size ≤ 140737488351232) (d : Nat) : ∀ (k i : Nat), s.size - i ≤ d → d < k →
    spec_VarName.l0 k s (i : Int) = some (((bs s).drop i).all small && decide (1 ≤ (s.size : Int) ∧ (s.size : Int) ≤ 4)) := by
  induction d with
  | zero =>
    intro k i hd hk
    obtain ⟨k, rfl⟩ : ∃ m, k = m + 1 := ⟨k - 1, by omega⟩
    simp only [spec_VarName.l0]
    rw [if_neg (by omega), l01In_is, bs_drop_nil s i (by omega)]; simp
  | succ d ih =>
    intro k i hd hk
    obtain ⟨k, rfl⟩ : ∃ m, k = m + 1 := ⟨k - 1, by omega⟩
    by_cases hi : i < s.size
    · have e := ih k (i + 1) (by omega) (by omega)
      simp only [spec_VarName.l0]
      rw [if_pos (by omega), if_pos (by omega), w64_succ hi hs, e, bs_drop s i hi]
      simp only [List.all_cons]
      by_cases h1 : bt s i < 97
      · rw [if_pos h1, show small (bt s i) = false from by simp [small]; omega]; simp
      · by_cases h2 : bt s i > 122
        · rw [if_neg h1, if_pos h2, show small (bt s i) = false from by simp [small]; omega]; simp
        · rw [if_neg h1, if_neg h2, show small (bt s i) = true from by simp [small]; omega]; simp
    · simp only [spec_VarName.l0]
      rw [if_neg (by omega), l01In_is, bs_drop_nil s i (by omega)]; simp
theorem specVarName_is (s : ByteArray) (hs : s.size ≤ 140737488351232) (k : Nat) (hk : s.size < k) : spec_VarName.f k s = some (varNameB s) := by
  unfold spec_VarName.f
  exact specVarName_l0 s hs s.size k 0 (by omega) hk

/-! ### specEnvOk -/
theorem specEnvOk_l0 (B : Nat) (hB : B ≤ 140737488351232) (xs : List S51) (hx : ∀ y ∈ xs, y.f0.size ≤ B) (hl : xs.length ≤ 9223372036854775807) (d : Nat) : ∀ (k i : Nat), xs.length - i ≤ d → d + B < k →
    spec_EnvOk.l0 k xs (i : Int) = some (envRest (ahead xs i) (xs.drop i) && decide ((xs.length : Int) ≤ 6)) := by
  induction d with
  | zero =>
    intro k i hd hk
    obtain ⟨k, rfl⟩ : ∃ m, k = m + 1 := ⟨k - 1, by omega⟩
    rw [spec_EnvOk.l0, if_neg (by omega), List.drop_eq_nil_of_le (by omega)]; simp [envRest]
  | succ d ih =>
    intro k i hd hk
    obtain ⟨k, rfl⟩ : ∃ m, k = m + 1 := ⟨k - 1, by omega⟩
    by_cases hi : i < xs.length
    · have hs : xs[i].f0.size ≤ B := hx _ (List.getElem_mem hi)
      have e := ih k (i + 1) (by omega) (by omega)
      rw [ahead_succ xs i hi] at e
      rw [spec_EnvOk.l0, if_pos (by omega), if_pos (by omega), rdI' xs i hi, specVarName_is _ (by omega) k (by omega), Option.bind_some, w64_len hi hl, e, drop_get xs i hi]
      simp only [envRest]
      by_cases h1 : varNameB xs[i].f0 = true
      · rw [if_pos h1, l01In_is, Option.bind_some, h1, show decide (-9999 ≤ xs[i].f1 ∧ xs[i].f1 ≤ 9999) = numB xs[i].f1 from rfl]
        by_cases h2 : numB xs[i].f1 = true
        · rw [if_pos h2, h2]
          by_cases h3 : (i : Int) > 0
          · have e2 : wrap64 ((i : Int) - 1) = ((i - 1 : Nat) : Int) := by rw [w64 (by omega) (by omega)]; omega
            rw [if_pos h3, e2, if_pos (by omega), if_pos (by omega), rdI' xs (i - 1) (by omega)]
            have ha : ahead xs i = some xs[i - 1].f0 := by
              unfold ahead
              rw [if_neg (by omega)]
              simp [List.getD, List.getElem?_eq_getElem (show i - 1 < xs.length by omega)]
            rw [ha, show Op.bytesLess xs[i - 1].f0.toList xs[i].f0.toList = lessB xs[i - 1].f0 xs[i].f0 from rfl]
            by_cases h4 : lessB xs[i - 1].f0 xs[i].f0 = true
            · rw [if_pos h4]; simp [h4]
            · rw [if_neg h4]; simp [h4]
          · rw [if_neg h3]
            have ha : ahead xs i = none := by unfold ahead; rw [if_pos (by omega)]
            rw [ha]; simp
        · rw [if_neg h2]; simp [h2]
      · rw [if_neg h1]; simp [h1]
    · rw [spec_EnvOk.l0, if_neg (by omega), List.drop_eq_nil_of_le (by omega)]; simp [envRest]
theorem specEnvOk_is (B : Nat) (hB : B ≤ 140737488351232) (xs : List S51) (hx : ∀ y ∈ xs, y.f0.size ≤ B) (hl : xs.length ≤ 9223372036854775807) (k : Nat) (hk : xs.length + B < k) : spec_EnvOk.f k xs = some (envOkB xs) := by
  unfold spec_EnvOk.f
  exact specEnvOk_l0 B hB xs hx hl xs.length k 0 (by omega) hk

/-! ### specEnvSet -/
/-- What EnvSet does behind its loops. -/
def tailSpec (k : Nat) (xs : List S51) (out : List S51) : Option (List S51 × Bool) :=
  ((spec_EnvOk.f k out).bind fun t204 => (if t204 = true then (some (out, true)) else ((some (([] : List (S51)) : List (S51))).bind fun y205 => (if y205.length + xs.length < 5864062014805 then (some ((y205 ++ xs), false)) else (none)))))
theorem specEnvSet_l1 (xs : List S51) (n : ByteArray) (hl : xs.length ≤ 1048576) (r : Nat) : ∀ (k i : Nat) (out : List S51), xs.length - i = r → out.length ≤ 1048577 + i →
    spec_EnvSet.l1 (k + r + 1) xs n out (i : Int) = tailSpec k xs (out ++ greater n (xs.drop i)) := by
  induction r with
  | zero =>
    intro k i out hr h1
    rw [show k + 0 + 1 = k + 1 from rfl, spec_EnvSet.l1, if_neg (by omega), List.drop_eq_nil_of_le (by omega), show greater n [] = [] from rfl, List.append_nil]
    rfl
  | succ r ih =>
    intro k i out hr h1
    have hi2 : i < xs.length := by omega
    rw [show k + (r + 1) + 1 = (k + r + 1) + 1 from by omega, spec_EnvSet.l1, if_pos (by omega), if_pos (by omega), rdI xs i hi2, drop_get xs i hi2, greater_cons, w64_len hi2 (by omega)]
    rw [show Op.bytesLess n.toList xs[i].f0.toList = lessB n xs[i].f0 from rfl]
    by_cases c1 : lessB n xs[i].f0 = true
    · rw [if_pos c1, if_pos c1, if_pos (by omega), ih k (i + 1) _ (by omega) (by simp; omega)]
      simp only [List.append_assoc]
    · rw [if_neg c1, if_neg c1, ih k (i + 1) _ (by omega) (by omega), List.nil_append]
theorem specEnvSet_l0 (xs : List S51) (n : ByteArray) (m : Int) (hl : xs.length ≤ 1048576) (r : Nat) : ∀ (k i : Nat) (out : List S51), xs.length - i = r → out.length ≤ i → i ≤ xs.length →
    spec_EnvSet.l0 (k + r + 1) xs n m out (i : Int) = spec_EnvSet.l1 k xs n (out ++ lesser n (xs.drop i) ++ [⟨n, m⟩]) 0 := by
  induction r with
  | zero =>
    intro k i out hr h1 h2
    rw [show k + 0 + 1 = k + 1 from rfl, spec_EnvSet.l0, if_neg (by omega), if_pos (by omega), List.drop_eq_nil_of_le (by omega), show lesser n [] = [] from rfl, List.append_nil]
  | succ r ih =>
    intro k i out hr h1 h2
    have hi2 : i < xs.length := by omega
    rw [show k + (r + 1) + 1 = (k + r + 1) + 1 from by omega, spec_EnvSet.l0, if_pos (by omega), if_pos (by omega), rdI xs i hi2, drop_get xs i hi2, lesser_cons, w64_len hi2 (by omega)]
    rw [show Op.bytesLess xs[i].f0.toList n.toList = lessB xs[i].f0 n from rfl]
    by_cases c1 : lessB xs[i].f0 n = true
    · rw [if_pos c1, if_pos c1, if_pos (by omega), ih k (i + 1) _ (by omega) (by simp; omega) (by omega)]
      simp only [List.append_assoc]
    · rw [if_neg c1, if_neg c1, ih k (i + 1) _ (by omega) (by omega) (by omega), List.nil_append]
theorem specEnvSet_is (xs : List S51) (n : ByteArray) (m : Int) (hx : ∀ y ∈ xs, y.f0.size ≤ 1048576) (hn : n.size ≤ 1048576) (hl : xs.length ≤ 1048576) (k : Nat) (hk : 4000000 + 2 * xs.length < k) :
    spec_EnvSet.f k xs n m = some (setEnv xs n m) := by
  obtain ⟨k, rfl⟩ : ∃ q, k = q + xs.length + 1 + xs.length + 1 := ⟨k - 2 * xs.length - 2, by omega⟩
  unfold spec_EnvSet.f
  have h1 := lesser_length n xs
  have h3 := putEnv_length xs n m
  rw [show (0 : Int) = ((0 : Nat) : Int) from rfl, specEnvSet_l0 xs n m hl xs.length _ 0 [] (by omega) (by simp) (by omega), List.drop_zero, List.nil_append,
    show (0 : Int) = ((0 : Nat) : Int) from rfl, specEnvSet_l1 xs n hl xs.length k 0 _ (by omega) (by simp only [List.length_append, List.length_singleton]; omega), List.drop_zero]
  unfold tailSpec
  rw [show lesser n xs ++ [(⟨n, m⟩ : S51)] ++ greater n xs = putEnv xs n m from rfl,
    specEnvOk_is 1048576 (by omega) _ (putEnv_mem hx hn) (by omega) k (by omega), Option.bind_some]
  unfold setEnv
  by_cases c : envOkB (putEnv xs n m) = true
  · rw [if_pos c, if_pos c]
  · rw [if_neg c, if_neg c, Option.bind_some, if_pos (by simp only [List.length_nil]; omega), List.nil_append]

/-! ### FnExactEnvSet -/
theorem FnExactEnvSet : laws_FnExactEnvSet.Pure := by
  intro xs n m hx hl hn hm
  have hl : xs.length ≤ 9223372036854775807 := by unfold maxLen at hl; exact hl
  refine ⟨xs.length + 100000000, ?_⟩
  unfold laws_FnExactEnvSet.f
  by_cases hbig : (n.size : Int) > 1048576
  · rw [if_pos hbig]
  obtain ⟨r, hr, hp⟩ := szVarS_is xs hx hl 1048576 (by omega) (by omega) (xs.length + 100000000) (by omega)
  rw [if_neg hbig, hr, Option.bind_some]
  by_cases h0 : r < 0
  · rw [if_pos h0]
  rw [if_neg h0]
  obtain ⟨hz, hs⟩ := (hp (by omega)).2
  have hm : ∀ y ∈ xs.map toV, y.f0.size ≤ 1048576 := by
    intro y hy
    obtain ⟨x, hx2, rfl⟩ := List.mem_map.1 hy
    exact hs x hx2
  have hlm : (xs.map toV).length ≤ 1048576 := by rw [List.length_map]; exact hz
  obtain ⟨ys, hys⟩ : ∃ ys, ys = xs.map toV := ⟨_, rfl⟩
  have hyl : ys.length ≤ 1048576 := by rw [hys]; exact hlm
  have hto : ∀ k, 1048576 < k → laws_toVarS.f k xs = some ys := fun k hk => by rw [hys]; exact toVarS_is xs hz k (by omega)
  have sp : ∀ k, 8000000 < k → spec_EnvSet.f k ys n m = some (setEnv ys n m) := fun k hk => specEnvSet_is ys n m (by rw [hys]; exact hm) (by omega) hyl k (by omega)
  have im : ∀ k, 8000000 < k → impl_EnvSet.f k ys n m = some (setEnv ys n m) := fun k hk => implEnvSet_is ys n m (by rw [hys]; exact hm) (by omega) hyl k (by omega)
  clear hys
  have hset : (setEnv ys n m).1.length ≤ 3000000 := by
    have := putEnv_length ys n m
    unfold setEnv
    by_cases c : envOkB (putEnv ys n m) = true
    · rw [if_pos c]; show (putEnv ys n m).length ≤ _; omega
    · rw [if_neg c]; show ys.length ≤ _; omega
  obtain ⟨R, hR⟩ : ∃ R, R = setEnv ys n m := ⟨_, rfl⟩
  rw [← hR] at sp im hset
  clear hR
  obtain ⟨g, b⟩ := R
  have hg : g.length ≤ 3000000 := hset
  have eqs : ∀ (zs : List S51) k, zs.length ≤ 3000000 → 3000000 < k → laws_eqVarS.f k zs zs = some true := fun zs k h1 h2 => eqVarS_self zs (by omega) k (by omega)
  have hbb : (b != b) = false := by simp
  generalize hK : xs.length + 100000000 = K
  have hK2 : 99999999 < K := by omega
  rw [hto K (by omega), Option.bind_some, sp K (by omega), Option.bind_some, Option.bind_some, im K (by omega), Option.bind_some]
  show (laws_eqVarS.f K g g).bind _ = _
  rw [eqs g K hg (by omega), Option.bind_some, if_pos rfl]
  show laws_FnExactEnvSet.j0 K xs n m g b ys g b (b != b) = _
  rw [hbb]
  obtain ⟨k, rfl⟩ : ∃ k, K = k + 3 := ⟨K - 3, by omega⟩
  rw [laws_FnExactEnvSet.j0, if_neg (by simp), hto _ (by omega), Option.bind_some, eqs ys _ (by omega) (by omega), Option.bind_some, if_pos rfl, markVarS_is ys (by omega) _ (by omega), Option.bind_some,
    if_neg (show ¬ ((1 + 2 * (ys.length : Int), marked ys 1) : Int × List S51).1 < 0 from by show ¬ (1 + 2 * (ys.length : Int) < 0); omega), eqs g _ hg (by omega), Option.bind_some, if_pos rfl, hbb]
  rw [laws_FnExactEnvSet.j1, if_neg (by simp), markVarS_is g (by omega) _ (by omega), Option.bind_some]
  show (laws_heldVarS.f _ (marked g 1) 1).bind _ = _
  rw [heldVarS_is g (by omega) _ (by omega), Option.bind_some, if_neg (by omega)]
  show (if (1 + 2 * (g.length : Int)) = (1 + 2 * (g.length : Int)) then _ else _) = _
  rw [if_pos rfl, hto _ (by omega), Option.bind_some, im _ (by omega), Option.bind_some]
  show (laws_eqVarS.f _ g g).bind _ = _
  rw [eqs g _ hg (by omega), Option.bind_some, if_pos rfl]
  show laws_FnExactEnvSet.j2 _ (marked g 1) (1 + 2 * (g.length : Int)) (b != b) = _
  rw [hbb, laws_FnExactEnvSet.j2, if_neg (by simp), heldVarS_is g (by omega) _ (by omega), Option.bind_some, if_neg (by omega), if_pos rfl]

end Go.Proofs.Ytigibdkgimgknaa.Pure
