/- FnExactEnvOnly without Go: at every list of names and every list of texts the program's EnvOnly and the reference's leave the same names, and what is marked is read again. -/
import Derived.Test.YtigibdkgimgknaaMFnExactEnvOnlyok
set_option linter.unusedVariables false
set_option linter.unusedSimpArgs false
set_option maxHeartbeats 400000
namespace Go.Proofs.Ytigibdkgimgknaa.Pure
open Go.RowKit Go.Proofs.Ytigibdkgimgknaa.MFnExactEnvOnly Go.Proofs.YtigibdkgimgknaaW.PrintWords Go.Proofs.YtigibdkgimgknaaW.PrintLast
/-! ### base -/
theorem w64 {n : Int} (h : -9223372036854775808 ≤ n) (h' : n ≤ 9223372036854775807) : wrap64 n = n := by unfold wrap64; omega
theorem w64_succ {i m : Nat} (h : i < m) (hm : m ≤ 140737488351232) : wrap64 ((i : Int) + 1) = ((i + 1 : Nat) : Int) := by
  rw [w64 (by omega) (by omega)]; omega
theorem w64_bt (s : ByteArray) (i : Int) : wrap64 (bt s i) = bt s i := by
  have := bt_range s i
  exact w64 (by omega) (by omega)
/-- A string's bytes as numbers. -/
def bs (s : ByteArray) : List Int := s.data.toList.map fun b => (b.toNat : Int)
theorem bs_length (s : ByteArray) : (bs s).length = s.size := by simp [bs]
theorem bs_get (s : ByteArray) (i : Nat) (h : i < s.size) : (bs s)[i]? = some (bt s i) := by
  have h2 : i < s.data.toList.length := by simpa using h
  simp only [bs, List.getElem?_map, List.getElem?_eq_getElem h2, Option.map_some]
  unfold bt
  rw [dif_pos (by simpa using h)]
  rfl
theorem bs_drop (s : ByteArray) (i : Nat) (h : i < s.size) : (bs s).drop i = bt s i :: (bs s).drop (i + 1) := by
  have h2 : i < (bs s).length := by rw [bs_length]; exact h
  rw [List.drop_eq_getElem_cons h2]
  congr 1
  have := bs_get s i h
  rw [List.getElem?_eq_getElem h2] at this
  exact Option.some.inj this
theorem bs_drop_nil (s : ByteArray) (i : Nat) (h : s.size ≤ i) : (bs s).drop i = [] := List.drop_eq_nil_of_le (by rw [bs_length]; exact h)
theorem bs_range {s : ByteArray} {c : Int} (h : c ∈ bs s) : 0 ≤ c ∧ c ≤ 255 := by
  simp only [bs, List.mem_map] at h
  obtain ⟨b, _, rfl⟩ := h
  have := b.toNat_lt
  omega
theorem bs_inj {s t : ByteArray} (h : bs s = bs t) : s = t := by
  have hd : s.data.toList = t.data.toList := by
    refine List.map_inj_right (f := fun b : UInt8 => (b.toNat : Int)) (fun a b hab => ?_) |>.1 h
    have hab2 : (a.toNat : Int) = b.toNat := hab
    exact UInt8.toNat_inj.1 (by omega)
  cases s; cases t
  simp only [ByteArray.mk.injEq]
  exact Array.toList_inj.1 hd
theorem bs_str {xs : List Int} (h : ∀ x ∈ xs, 0 ≤ x ∧ x ≤ 255) : bs (strOfNums xs) = xs := by
  unfold bs strOfNums
  simp only [List.map_map]
  conv => rhs; rw [← List.map_id xs]
  refine List.map_congr_left fun x hx => ?_
  have := h x hx
  simp only [Function.comp, id, UInt8.toNat_ofNat']
  omega
theorem str_bs (s : ByteArray) : strOfNums (bs s) = s := bs_inj (bs_str fun _ hx => bs_range hx)
theorem str_size (xs : List Int) : (strOfNums xs).size = xs.length := by
  show ((xs.map fun n => UInt8.ofNat n.toNat).toArray).size = xs.length
  simp
theorem bs_append (s t : ByteArray) : bs (s ++ t) = bs s ++ bs t := by
  simp [bs]
theorem bs_empty : bs (⟨#[]⟩ : ByteArray) = [] := rfl
theorem bt_str {xs : List Int} (h : ∀ x ∈ xs, 0 ≤ x ∧ x ≤ 255) (i : Nat) (hi : i < xs.length) : bt (strOfNums xs) i = rd xs i := by
  have h1 := bs_get (strOfNums xs) i (by rw [str_size]; exact hi)
  rw [bs_str h] at h1
  unfold rd
  rw [List.getD_eq_getElem?_getD, Int.toNat_natCast, h1]
  rfl
theorem bt_bs (s : ByteArray) (i : Int) : bt s i = rd (bs s) i := by
  unfold rd
  rw [List.getD_eq_getElem?_getD]
  by_cases h : i.toNat < s.size
  · have := bs_get s i.toNat h
    rw [this]
    unfold bt
    simp only [Int.toNat_natCast]
    rw [dif_pos h]
    rfl
  · rw [List.getElem?_eq_none (by rw [bs_length]; omega)]
    unfold bt
    rw [dif_neg h]
    rfl
theorem toList_eq {s t : ByteArray} : s.toList = t.toList ↔ s = t := by
  rw [ByteArray.toList_eq, ByteArray.toList_eq]
  constructor
  · intro h; cases s; cases t; simpa [Array.toList_inj] using h
  · rintro rfl; rfl
theorem tdiv_e {n : Int} (h : 0 ≤ n) (m : Int) : Int.tdiv n m = n / m := Int.tdiv_eq_ediv_of_nonneg h
theorem tmod_e {n : Int} (h : 0 ≤ n) (m : Int) : Int.tmod n m = n % m := Int.tmod_eq_emod_of_nonneg h

/-! ### lists -/
theorem drop_get {α : Type} (xs : List α) (i : Nat) (h : i < xs.length) : xs.drop i = xs[i] :: xs.drop (i + 1) := List.drop_eq_getElem_cons h
theorem w64_len {i n : Nat} (h : i < n) (hn : n ≤ 9223372036854775807) : wrap64 ((i : Int) + 1) = ((i + 1 : Nat) : Int) := by
  rw [w64 (by omega) (by omega)]; omega
theorem take_set {α : Type} (acc : List α) (i : Nat) (v : α) (h : i < acc.length) : (acc.set i v).take (i + 1) = acc.take i ++ [v] := by
  rw [List.take_add_one, List.getElem?_set_self h, List.take_set_of_le (Nat.le_refl i)]; rfl

/-! ### lawsVar -/
/-! what the laws' own small functions tell of names and numbers -/
theorem rdL (xs : List S92) (i : Nat) (h : i < xs.length) : rd_T92 xs (i : Int) = xs[i] := by simp [rd_T92, List.getD, h]
theorem rdI (xs : List S51) (i : Nat) (h : i < xs.length) : rd_T51 xs (i : Int) = xs[i] := by simp [rd_T51, List.getD, h]
def szOk (xs : List S92) : Prop := xs.length ≤ 1048576 ∧ ∀ y ∈ xs, y.f0.size ≤ 1048576
theorem szVarS_l0 (xs : List S92) (hx : ∀ y ∈ xs, ok92 y) (hl : xs.length ≤ 9223372036854775807) (d : Nat) : ∀ (k i : Nat) (left : Int), xs.length - i ≤ d → d < k → 0 ≤ left → left ≤ 1048576 →
    ∃ r, laws_szVarS.l0 k xs left (i : Int) = some r ∧ (0 ≤ r → r ≤ 1048576 ∧ ∀ y ∈ xs.drop i, y.f0.size ≤ 1048576) := by
  induction d with
  | zero =>
    intro k i left hd hk h0 h1
    obtain ⟨k, rfl⟩ : ∃ m, k = m + 1 := ⟨k - 1, by omega⟩
    refine ⟨left, ?_, fun _ => ⟨h1, ?_⟩⟩
    · rw [laws_szVarS.l0, if_neg (by omega)]
    · rw [List.drop_eq_nil_of_le (by omega)]; simp
  | succ d ih =>
    intro k i left hd hk h0 h1
    obtain ⟨k, rfl⟩ : ∃ m, k = m + 1 := ⟨k - 1, by omega⟩
    by_cases hi : i < xs.length
    · have hs : xs[i].f0.size ≤ 9223372036854775807 := by have := (hx xs[i] (List.getElem_mem hi)).1; unfold maxLen at this; exact this
      rw [laws_szVarS.l0, if_pos (by omega), if_pos (by omega), rdL xs i hi, w64_len hi hl]
      unfold laws_szVar.f
      rw [w64 (n := left - (xs[i].f0.size : Int)) (by omega) (by omega)]
      by_cases h2 : left - (xs[i].f0.size : Int) < 0
      · rw [if_pos h2, Option.bind_some, if_pos (by omega)]
        exact ⟨-1, rfl, fun h => absurd h (by omega)⟩
      · rw [if_neg h2, Option.bind_some, if_neg h2]
        obtain ⟨r, hr, hp⟩ := ih k (i + 1) (left - (xs[i].f0.size : Int)) (by omega) (by omega) (by omega) (by omega)
        refine ⟨r, hr, fun h => ?_⟩
        obtain ⟨p1, p2⟩ := hp h
        refine ⟨p1, fun y hy => ?_⟩
        rw [drop_get xs i hi, List.mem_cons] at hy
        rcases hy with rfl | hy
        · omega
        · exact p2 y hy
    · refine ⟨left, ?_, fun _ => ⟨h1, ?_⟩⟩
      · rw [laws_szVarS.l0, if_neg (by omega)]
      · rw [List.drop_eq_nil_of_le (by omega)]; simp
theorem szVarS_is (xs : List S92) (hx : ∀ y ∈ xs, ok92 y) (hl : xs.length ≤ 9223372036854775807) (left : Int) (h0 : 0 ≤ left) (h1 : left ≤ 1048576) (k : Nat) (hk : xs.length < k) :
    ∃ r, laws_szVarS.f k xs left = some r ∧ (0 ≤ r → r ≤ 1048576 ∧ szOk xs) := by
  unfold laws_szVarS.f
  rw [w64 (n := left - (xs.length : Int)) (by omega) (by omega)]
  by_cases h2 : left - (xs.length : Int) < 0
  · rw [if_pos h2]; exact ⟨-1, rfl, fun h => absurd h (by omega)⟩
  · rw [if_neg h2]
    obtain ⟨r, hr, hp⟩ := szVarS_l0 xs hx hl xs.length k 0 (left - (xs.length : Int)) (by omega) hk (by omega) (by omega)
    refine ⟨r, hr, fun h => ?_⟩
    obtain ⟨p1, p2⟩ := hp h
    exact ⟨p1, by omega, by simpa using p2⟩
/-- A name and its number, as the program has them. -/
def toV (x : S92) : S51 := ⟨x.f0, x.f1⟩
theorem toVarS_l0 (xs : List S92) (hl : xs.length ≤ 1048576) (d : Nat) : ∀ (k i : Nat) (acc : List S51), xs.length - i ≤ d → d < k → i ≤ xs.length → acc.length = xs.length → acc.take i = (xs.take i).map toV →
    laws_toVarS.l0 k xs acc (i : Int) = some (xs.map toV) := by
  induction d with
  | zero =>
    intro k i acc hd hk hi ha ht
    obtain ⟨k, rfl⟩ : ∃ m, k = m + 1 := ⟨k - 1, by omega⟩
    rw [laws_toVarS.l0, if_neg (by omega)]
    rw [show i = xs.length from by omega, List.take_length, ← ha, List.take_length] at ht
    rw [ht]
  | succ d ih =>
    intro k i acc hd hk hi ha ht
    obtain ⟨k, rfl⟩ : ∃ m, k = m + 1 := ⟨k - 1, by omega⟩
    by_cases hi2 : i < xs.length
    · rw [laws_toVarS.l0, if_pos (by omega), if_pos (by omega), rdL xs i hi2]
      unfold laws_toVar.f
      rw [Option.bind_some, if_pos (by omega), w64_len hi2 (by omega), show ((i : Int)).toNat = i from by omega]
      refine ih k (i + 1) _ (by omega) (by omega) (by omega) (by rw [List.length_set]; exact ha) ?_
      rw [take_set acc i _ (by omega), ht, List.take_add_one, List.getElem?_eq_getElem hi2, List.map_append]
      rfl
    · rw [laws_toVarS.l0, if_neg (by omega)]
      rw [show i = xs.length from by omega, List.take_length, ← ha, List.take_length] at ht
      rw [ht]
theorem toVarS_is (xs : List S92) (hl : xs.length ≤ 1048576) (k : Nat) (hk : xs.length < k) : laws_toVarS.f k xs = some (xs.map toV) := by
  unfold laws_toVarS.f
  rw [if_pos (by omega), if_pos (by omega)]
  exact toVarS_l0 xs hl xs.length k 0 _ (by omega) hk (by omega) (by simp) (by simp)
theorem eqVarS_l0 (xs : List S51) (hl : xs.length ≤ 9223372036854775807) (d : Nat) : ∀ (k i : Nat), xs.length - i ≤ d → d < k → laws_eqVarS.l0 k xs xs (i : Int) = some true := by
  induction d with
  | zero =>
    intro k i hd hk
    obtain ⟨k, rfl⟩ : ∃ m, k = m + 1 := ⟨k - 1, by omega⟩
    rw [laws_eqVarS.l0, if_neg (by omega)]
  | succ d ih =>
    intro k i hd hk
    obtain ⟨k, rfl⟩ : ∃ m, k = m + 1 := ⟨k - 1, by omega⟩
    by_cases hi : i < xs.length
    · rw [laws_eqVarS.l0, if_pos (by omega), if_pos (by omega), if_pos (by omega)]
      unfold laws_eqVar.f
      simp only [if_true, Option.bind_some]
      rw [w64_len hi hl]
      exact ih k (i + 1) (by omega) (by omega)
    · rw [laws_eqVarS.l0, if_neg (by omega)]
theorem eqVarS_self (xs : List S51) (hl : xs.length ≤ 9223372036854775807) (k : Nat) (hk : xs.length < k) : laws_eqVarS.f k xs xs = some true := by
  unfold laws_eqVarS.f
  rw [if_pos rfl]
  exact eqVarS_l0 xs hl xs.length k 0 (by omega) hk

/-! ### marks -/
/-! the laws' marks: what is written into a list of names is read again -/
theorem mono_le {α : Type} {f : Nat → Option α} (h : ∀ k, LeO (f k) (f (k + 1))) {a b : Nat} (hab : a ≤ b) : LeO (f a) (f b) := by
  induction hab with
  | refl => exact LeO.refl _
  | step _ ih => exact LeO.trans ih (h _)
theorem markText_l0 (d : Nat) : ∀ (n : Int) (acc : ByteArray) (k : Nat), 0 ≤ n → n ≤ 9223372036854775807 → n < (10 : Int) ^ d → acc.size + d ≤ 1000 → d < k → ∃ t, laws_markText.l0 k n acc = some t := by
  induction d with
  | zero =>
    intro n acc k h0 hbig h1 hs hk
    obtain ⟨k, rfl⟩ : ∃ m, k = m + 1 := ⟨k - 1, by omega⟩
    have h1' : n < 1 := by simpa using h1
    rw [laws_markText.l0, if_neg (by omega), if_pos (by omega)]
    exact ⟨_, rfl⟩
  | succ d ih =>
    intro n acc k h0 hbig h1 hs hk
    obtain ⟨k, rfl⟩ : ∃ m, k = m + 1 := ⟨k - 1, by omega⟩
    by_cases hn : n > 0
    · have hsz : ∀ x : Int, (strOfNums [x]).size = 1 := fun x => str_size [x]
      have hq : wrap64 (Int.tdiv n 10) = n / 10 := by rw [tdiv_e h0, w64 (by omega) (by omega)]
      rw [laws_markText.l0, if_pos hn, Option.bind_some, hsz, if_pos (by omega), hq]
      refine ih _ _ k (by omega) (by omega) ?_ ?_ (by omega)
      · rw [Int.pow_succ] at h1; omega
      · rw [ByteArray.size_append, hsz]; omega
    · rw [laws_markText.l0, if_neg hn, if_pos (by omega)]
      exact ⟨_, rfl⟩
/-- The text that a number is marked with. -/
def mkT (a : Int) : ByteArray := (laws_markText.f 14 a).getD ⟨#[]⟩
theorem mkT_is (a : Int) (h0 : 0 ≤ a) (h1 : a ≤ 1000000000000) (k : Nat) (hk : 14 ≤ k) : laws_markText.f k a = some (mkT a) := by
  have ht : ∃ t, laws_markText.f 14 a = some t := by
    unfold laws_markText.f
    by_cases h : a ≤ 0
    · rw [if_pos h]; exact ⟨_, rfl⟩
    · rw [if_neg h]
      exact markText_l0 13 a _ 14 h0 (by omega) (by omega) (by show 0 + 13 ≤ 1000; omega) (by omega)
  obtain ⟨t, ht⟩ := ht
  have := mono_le (f := fun k => laws_markText.f k a) (fun k => laws_markText.mono a k) hk t ht
  unfold mkT
  rw [ht]
  exact this
def marked : List S51 → Int → List S51
  | [], _ => []
  | _ :: l, a => ⟨mkT a, a + 1⟩ :: marked l (a + 2)
theorem marked_length (xs : List S51) : ∀ a, (marked xs a).length = xs.length := by
  induction xs with
  | nil => intro a; rfl
  | cons x l ih => intro a; simp [marked, ih]
theorem markVarS_l0 (d : Nat) : ∀ (k i : Nat) (xs : List S51) (a : Int), xs.length - i ≤ d → d + 15 ≤ k → i ≤ xs.length → xs.length ≤ 100000000 → 0 ≤ a → a ≤ 1 + 2 * (i : Int) →
    laws_markVarS.l0 k xs a (i : Int) = some (a + 2 * ((xs.length - i : Nat) : Int), xs.take i ++ marked (xs.drop i) a) := by
  induction d with
  | zero =>
    intro k i xs a hd hk hi hl h0 h1
    obtain ⟨k, rfl⟩ : ∃ m, k = m + 1 := ⟨k - 1, by omega⟩
    rw [laws_markVarS.l0, if_neg (by omega), List.drop_eq_nil_of_le (by omega), List.take_of_length_le (by omega), show xs.length - i = 0 from by omega]
    simp [marked]
  | succ d ih =>
    intro k i xs a hd hk hi hl h0 h1
    obtain ⟨k, rfl⟩ : ∃ m, k = m + 1 := ⟨k - 1, by omega⟩
    by_cases hi2 : i < xs.length
    · have e1 : wrap64 (a + 1) = a + 1 := w64 (by omega) (by omega)
      have e2 : wrap64 (a + 1 + 1) = a + 2 := by rw [w64 (by omega) (by omega)]; omega
      have e3 : ∀ v : S51, rd_T51 (xs.set i v) (i : Int) = v := fun v => by rw [rdI _ i (by simpa using hi2)]; simp
      rw [laws_markVarS.l0, if_pos (by omega), mkT_is a h0 (by omega) k (by omega), Option.bind_some, if_pos (by omega), Option.bind_some, e1, e2, w64_len hi2 (by omega), show ((i : Int)).toNat = i from by omega, e3, List.set_set]
      rw [ih k (i + 1) _ (a + 2) (by simp; omega) (by omega) (by simp; omega) (by simp; omega) (by omega) (by omega), take_set xs i _ hi2, drop_get xs i hi2, List.drop_set_of_lt (by omega), List.length_set]
      congr 1
      refine Prod.ext ?_ ?_
      · show a + 2 + 2 * _ = a + 2 * _
        omega
      · simp [marked]
    · rw [laws_markVarS.l0, if_neg (by omega), List.drop_eq_nil_of_le (by omega), List.take_of_length_le (by omega), show xs.length - i = 0 from by omega]
      simp [marked]
theorem markVarS_is (xs : List S51) (hl : xs.length ≤ 100000000) (k : Nat) (hk : xs.length + 15 ≤ k) : laws_markVarS.f k xs 1 = some (1 + 2 * (xs.length : Int), marked xs 1) := by
  unfold laws_markVarS.f
  have := markVarS_l0 xs.length k 0 xs 1 (by omega) hk (by omega) hl (by omega) (by omega)
  simpa using this
theorem heldVarS_l0 (ys : List S51) (hl : ys.length ≤ 100000000) (d : Nat) : ∀ (k i : Nat) (zs : List S51) (a : Int), ys.length - i = d → zs.length = d → ys.drop i = marked zs a → d + 15 ≤ k → i ≤ ys.length → 0 ≤ a → a ≤ 1 + 2 * (i : Int) →
    laws_heldVarS.l0 k ys a (i : Int) = some (a + 2 * (d : Int)) := by
  induction d with
  | zero =>
    intro k i zs a hd hz he hk hi h0 h1
    obtain ⟨k, rfl⟩ : ∃ m, k = m + 1 := ⟨k - 1, by omega⟩
    rw [laws_heldVarS.l0, if_neg (by omega)]
    simp
  | succ d ih =>
    intro k i zs a hd hz he hk hi h0 h1
    obtain ⟨k, rfl⟩ : ∃ m, k = m + 1 := ⟨k - 1, by omega⟩
    have hi2 : i < ys.length := by omega
    match zs, hz, he with
    | z :: zs, hz, he =>
      rw [drop_get ys i hi2, marked, List.cons.injEq] at he
      have e1 : wrap64 (a + 1) = a + 1 := w64 (by omega) (by omega)
      have e2 : wrap64 (a + 1 + 1) = a + 2 := by rw [w64 (by omega) (by omega)]; omega
      rw [laws_heldVarS.l0, if_pos (by omega), if_pos (by omega), mkT_is a h0 (by omega) k (by omega), Option.bind_some, rdI ys i hi2, he.1, if_pos rfl, e1, if_pos rfl, e2, w64_len hi2 (by omega),
        ih k (i + 1) zs (a + 2) (by omega) (by simpa using hz) he.2 (by omega) (by omega) (by omega) (by omega)]
      congr 1
      omega
theorem heldVarS_is (xs : List S51) (hl : xs.length ≤ 100000000) (k : Nat) (hk : xs.length + 15 ≤ k) : laws_heldVarS.f k (marked xs 1) 1 = some (1 + 2 * (xs.length : Int)) := by
  unfold laws_heldVarS.f
  exact heldVarS_l0 (marked xs 1) (by rw [marked_length]; exact hl) xs.length k 0 xs 1 (by rw [marked_length]; omega) rfl rfl hk (by omega) (by omega) (by omega)

/-! ### gen -/
/-! ### loops told once: over a list, place by place -/
theorem gen_to {α β : Type} (L : Nat → List α → List β → Int → Option (List β)) (c : α → β) (xs : List α) (K : Nat)
    (hstep : ∀ (k i : Nat) (acc : List β) (h : i < xs.length), acc.length = xs.length → K ≤ k → L (k + 1) xs acc (i : Int) = L k xs (acc.set i (c xs[i])) ((i + 1 : Nat) : Int))
    (hend : ∀ (k : Nat) (acc : List β), L (k + 1) xs acc (xs.length : Int) = some acc) (k : Nat) (acc : List β) (hk : K + xs.length < k) (ha : acc.length = xs.length) : L k xs acc 0 = some (xs.map c) := by
  have go : ∀ (d k i : Nat) (acc : List β), xs.length - i ≤ d → K + d < k → i ≤ xs.length → acc.length = xs.length → acc.take i = (xs.take i).map c → L k xs acc (i : Int) = some (xs.map c) := by
    intro d
    induction d with
    | zero =>
      intro k i acc hd hk hi ha ht
      obtain ⟨k, rfl⟩ : ∃ m, k = m + 1 := ⟨k - 1, by omega⟩
      obtain rfl : i = xs.length := by omega
      rw [hend]
      rw [List.take_length, ← ha, List.take_length] at ht
      rw [ht]
    | succ d ih =>
      intro k i acc hd hk hi ha ht
      obtain ⟨k, rfl⟩ : ∃ m, k = m + 1 := ⟨k - 1, by omega⟩
      by_cases hi2 : i < xs.length
      · rw [hstep k i acc hi2 ha (by omega)]
        refine ih k (i + 1) _ (by omega) (by omega) (by omega) (by rw [List.length_set]; exact ha) ?_
        rw [take_set acc i _ (by omega), ht, List.take_add_one, List.getElem?_eq_getElem hi2, List.map_append]
        rfl
      · obtain rfl : i = xs.length := by omega
        rw [hend]
        rw [List.take_length, ← ha, List.take_length] at ht
        rw [ht]
  exact go xs.length k 0 acc (by omega) hk (by omega) ha (by simp)
theorem gen_eq {β : Type} (L : Nat → List β → List β → Int → Option Bool) (xs : List β) (K : Nat)
    (hstep : ∀ (k i : Nat), i < xs.length → K ≤ k → L (k + 1) xs xs (i : Int) = L k xs xs ((i + 1 : Nat) : Int))
    (hend : ∀ k : Nat, L (k + 1) xs xs (xs.length : Int) = some true) (k : Nat) (hk : K + xs.length < k) : L k xs xs 0 = some true := by
  have go : ∀ (d k i : Nat), xs.length - i ≤ d → K + d < k → i ≤ xs.length → L k xs xs (i : Int) = some true := by
    intro d
    induction d with
    | zero =>
      intro k i hd hk hi
      obtain ⟨k, rfl⟩ : ∃ m, k = m + 1 := ⟨k - 1, by omega⟩
      obtain rfl : i = xs.length := by omega
      exact hend k
    | succ d ih =>
      intro k i hd hk hi
      obtain ⟨k, rfl⟩ : ∃ m, k = m + 1 := ⟨k - 1, by omega⟩
      by_cases hi2 : i < xs.length
      · rw [hstep k i hi2 (by omega)]
        exact ih k (i + 1) (by omega) (by omega) (by omega)
      · obtain rfl : i = xs.length := by omega
        exact hend k
  exact go xs.length k 0 (by omega) hk (by omega)
theorem gen_sz {α : Type} (L : Nat → List α → Int → Int → Option Int) (xs : List α) (P : α → Prop) (K : Nat)
    (hstep : ∀ (k i : Nat) (left : Int) (h : i < xs.length), 0 ≤ left → left ≤ 1048576 → K ≤ k → L (k + 1) xs left (i : Int) = some (-1) ∨ ∃ t, 0 ≤ t ∧ t ≤ left ∧ P xs[i] ∧ L (k + 1) xs left (i : Int) = L k xs t ((i + 1 : Nat) : Int))
    (hend : ∀ (k : Nat) (left : Int), L (k + 1) xs left (xs.length : Int) = some left) (k : Nat) (left : Int) (hk : K + xs.length < k) (h0 : 0 ≤ left) (h1 : left ≤ 1048576) :
    L k xs left 0 = some (-1) ∨ ∃ r, L k xs left 0 = some r ∧ 0 ≤ r ∧ r ≤ left ∧ ∀ y ∈ xs, P y := by
  have go : ∀ (d k i : Nat) (left : Int), xs.length - i ≤ d → K + d < k → i ≤ xs.length → 0 ≤ left → left ≤ 1048576 → L k xs left (i : Int) = some (-1) ∨ ∃ r, L k xs left (i : Int) = some r ∧ 0 ≤ r ∧ r ≤ left ∧ ∀ y ∈ xs.drop i, P y := by
    intro d
    induction d with
    | zero =>
      intro k i left hd hk hi h0 h1
      obtain ⟨k, rfl⟩ : ∃ m, k = m + 1 := ⟨k - 1, by omega⟩
      obtain rfl : i = xs.length := by omega
      exact .inr ⟨left, hend k left, h0, Int.le_refl _, by simp⟩
    | succ d ih =>
      intro k i left hd hk hi h0 h1
      obtain ⟨k, rfl⟩ : ∃ m, k = m + 1 := ⟨k - 1, by omega⟩
      by_cases hi2 : i < xs.length
      · rcases hstep k i left hi2 h0 h1 (by omega) with h | ⟨t, t0, t1, hp, h⟩
        · exact .inl h
        · rw [h]
          rcases ih k (i + 1) t (by omega) (by omega) (by omega) t0 (by omega) with h | ⟨r, hr, r0, r1, ha⟩
          · exact .inl h
          · refine .inr ⟨r, hr, r0, by omega, fun y hy => ?_⟩
            rw [drop_get xs i hi2, List.mem_cons] at hy
            rcases hy with rfl | hy
            · exact hp
            · exact ha y hy
      · obtain rfl : i = xs.length := by omega
        exact .inr ⟨left, hend k left, h0, Int.le_refl _, by simp⟩
  have := go xs.length k 0 left (by omega) hk (by omega) h0 h1
  simpa using this

/-! ### lawsStrRd -/
theorem rdStr (xs : List ByteArray) (i : Nat) (h : i < xs.length) : rdOf ByteArray.empty xs (i : Int) = xs[i] := by simp [rdOf, List.getD, h]

/-! ### lawsStr -/
/-! what the laws' own small functions tell of lists of texts -/
theorem mx {n : Nat} (h : n ≤ maxLen) : n ≤ 9223372036854775807 := by unfold maxLen at h; exact h
theorem szStringS_is (xs : List ByteArray) (hx : ∀ y ∈ xs, y.size ≤ maxLen) (hl : xs.length ≤ maxLen) (left : Int) (h0 : 0 ≤ left) (h1 : left ≤ 1048576) (k : Nat) (hk : 2000000 < k) :
    laws_szStringS.f k xs left = some (-1) ∨ ∃ t, laws_szStringS.f k xs left = some t ∧ 0 ≤ t ∧ t ≤ left ∧ xs.length ≤ 1048576 := by
  have hl := mx hl
  unfold laws_szStringS.f
  rw [w64 (n := left - (xs.length : Int)) (by omega) (by omega)]
  by_cases h2 : left - (xs.length : Int) < 0
  · rw [if_pos h2]; exact .inl rfl
  · rw [if_neg h2]
    have g := gen_sz (fun k x a i => laws_szStringS.l0 k x a i) xs (fun _ => True) 0 (fun k i left h h0 h1 _ => by
        show laws_szStringS.l0 (k + 1) xs left (i : Int) = _ ∨ ∃ t, _ ∧ _ ∧ _ ∧ laws_szStringS.l0 (k + 1) xs left (i : Int) = laws_szStringS.l0 k xs t ((i + 1 : Nat) : Int)
        have m2 := mx (hx xs[i] (List.getElem_mem h))
        rw [laws_szStringS.l0, if_pos (by omega), if_pos (by omega), rdStr xs i h, w64_len h hl, w64 (n := left - (xs[i].size : Int)) (by omega) (by omega)]
        by_cases c : left - (xs[i].size : Int) < 0
        · rw [if_pos c]; exact .inl rfl
        · rw [if_neg c]; exact .inr ⟨_, by omega, by omega, trivial, rfl⟩)
      (fun k left => by show laws_szStringS.l0 (k + 1) xs left _ = _; rw [laws_szStringS.l0, if_neg (by omega)]) k (left - (xs.length : Int)) (by omega) (by omega) (by omega)
    rcases g with g | ⟨r, g, r0, r1, _⟩
    · exact .inl g
    · exact .inr ⟨r, g, r0, by omega, by omega⟩
theorem toStringS_is (xs : List ByteArray) (hl : xs.length ≤ 1048576) (k : Nat) (hk : 2000000 < k) : laws_toStringS.f k xs = some xs := by
  unfold laws_toStringS.f
  rw [if_pos (by omega), if_pos (by omega)]
  have h := gen_to (fun k x a i => laws_toStringS.l0 k x a i) id xs 0 (fun k i acc h ha _ => by
      show laws_toStringS.l0 (k + 1) xs acc (i : Int) = _
      rw [laws_toStringS.l0, if_pos (by omega), if_pos (by omega), if_pos (by omega), rdStr xs i h, w64_len h (by omega)]; rfl)
    (fun k acc => by show laws_toStringS.l0 (k + 1) xs acc _ = _; rw [laws_toStringS.l0, if_neg (by omega)]) k (List.replicate ((xs.length : Int)).toNat (⟨#[]⟩ : ByteArray)) (by omega) (by simp)
  rw [List.map_id] at h
  exact h
theorem eqStringS_self (xs : List ByteArray) (hl : xs.length ≤ 1048576) (k : Nat) (hk : 2000000 < k) : laws_eqStringS.f k xs xs = some true := by
  unfold laws_eqStringS.f
  rw [if_pos rfl]
  exact gen_eq (fun k x a i => laws_eqStringS.l0 k x a i) xs 0 (fun k i h _ => by
      show laws_eqStringS.l0 (k + 1) xs xs (i : Int) = _
      rw [laws_eqStringS.l0, if_pos (by omega), if_pos (by omega), if_pos (by omega), if_pos rfl, w64_len h (by omega)])
    (fun k => by show laws_eqStringS.l0 (k + 1) xs xs _ = _; rw [laws_eqStringS.l0, if_neg (by omega)]) k (by omega)

/-! ### rdV -/
theorem rdI' (xs : List S51) (i : Nat) (h : i < xs.length) : rd_T51 xs (i : Int) = xs[i] := by simp [rd_T51, List.getD, h]

/-! ### envOnly -/
theorem l03In_l0 (ns : List ByteArray) (v : ByteArray) (hl : ns.length ≤ 9223372036854775807) (d : Nat) : ∀ (k i : Nat), ns.length - i ≤ d → d < k → spec_l03In.l0 k ns v (i : Int) = some (impl_EnvOnly.has (ns.drop i) v) := by
  induction d with
  | zero =>
    intro k i hd hk
    obtain ⟨k, rfl⟩ : ∃ m, k = m + 1 := ⟨k - 1, by omega⟩
    rw [spec_l03In.l0, if_neg (by omega), List.drop_eq_nil_of_le (by omega)]; rfl
  | succ d ih =>
    intro k i hd hk
    obtain ⟨k, rfl⟩ : ∃ m, k = m + 1 := ⟨k - 1, by omega⟩
    by_cases hi : i < ns.length
    · rw [spec_l03In.l0, if_pos (by omega), if_pos (by omega), rdStr ns i hi, w64_len hi hl, ih k (i + 1) (by omega) (by omega), drop_get ns i hi]
      unfold impl_EnvOnly.has
      rw [List.any_cons]
      by_cases h : ns[i].toList = v.toList
      · rw [if_pos h, h]; simp
      · rw [if_neg h, show (v.toList == ns[i].toList) = false from by simpa using fun e => h e.symm, Bool.false_or]
    · rw [spec_l03In.l0, if_neg (by omega), List.drop_eq_nil_of_le (by omega)]; rfl
theorem l03In_is (ns : List ByteArray) (v : ByteArray) (hl : ns.length ≤ 9223372036854775807) (k : Nat) (hk : ns.length < k) : spec_l03In.f k ns v = some (impl_EnvOnly.has ns v) := by
  unfold spec_l03In.f
  exact l03In_l0 ns v hl ns.length k 0 (by omega) hk
def only (ns : List ByteArray) (xs : List S51) : List S51 := xs.filter fun x => impl_EnvOnly.has ns x.f0
theorem only_length (ns : List ByteArray) (xs : List S51) : (only ns xs).length ≤ xs.length := List.length_filter_le _ _
theorem specEnvOnly_l0 (xs : List S51) (ns : List ByteArray) (hl : xs.length ≤ 1048576) (hn : ns.length ≤ 1048576) (d : Nat) : ∀ (k i : Nat) (out : List S51), xs.length - i ≤ d → d + 1048580 < k → out.length ≤ i →
    spec_EnvOnly.l0 k xs ns out (i : Int) = some (out ++ only ns (xs.drop i)) := by
  induction d with
  | zero =>
    intro k i out hd hk ho
    obtain ⟨k, rfl⟩ : ∃ m, k = m + 1 := ⟨k - 1, by omega⟩
    rw [spec_EnvOnly.l0, if_neg (by omega), List.drop_eq_nil_of_le (by omega), show only ns [] = [] from rfl, List.append_nil]
  | succ d ih =>
    intro k i out hd hk ho
    obtain ⟨k, rfl⟩ : ∃ m, k = m + 1 := ⟨k - 1, by omega⟩
    by_cases hi : i < xs.length
    · rw [spec_EnvOnly.l0, if_pos (by omega), if_pos (by omega), rdI' xs i hi, l03In_is ns _ (by omega) k (by omega), Option.bind_some, w64_len hi (by omega), drop_get xs i hi]
      by_cases h : impl_EnvOnly.has ns xs[i].f0 = true
      · rw [if_pos h, if_pos (by omega), ih k (i + 1) _ (by omega) (by omega) (by simp; omega), List.append_assoc]
        unfold only
        rw [List.filter_cons, if_pos h]
        rfl
      · rw [if_neg h, ih k (i + 1) _ (by omega) (by omega) (by omega)]
        unfold only
        rw [List.filter_cons, if_neg h]
    · rw [spec_EnvOnly.l0, if_neg (by omega), List.drop_eq_nil_of_le (by omega), show only ns [] = [] from rfl, List.append_nil]
theorem specEnvOnly_is (xs : List S51) (ns : List ByteArray) (hl : xs.length ≤ 1048576) (hn : ns.length ≤ 1048576) (k : Nat) (hk : 3000000 < k) : spec_EnvOnly.f k xs ns = some (only ns xs) := by
  unfold spec_EnvOnly.f
  exact specEnvOnly_l0 xs ns hl hn xs.length k 0 [] (by omega) (by omega) (by simp)
theorem implEnvOnly_is (xs : List S51) (ns : List ByteArray) (hl : xs.length ≤ 1048576) : impl_EnvOnly.f xs ns = some (only ns xs) := by
  unfold impl_EnvOnly.f impl_copyEnv.f
  rw [Option.bind_some, if_pos (by simp only [List.length_nil]; omega), Option.bind_some, List.nil_append]
  unfold only
  congr 1
  refine List.filter_congr fun x _ => ?_
  rw [Bool.not_not]

/-! ### FnExactEnvOnly -/
theorem markStringS_l0 (d : Nat) : ∀ (k i : Nat) (xs : List ByteArray) (a : Int), xs.length - i ≤ d → d + 15 ≤ k → i ≤ xs.length → xs.length ≤ 100000000 → 0 ≤ a → a ≤ 300000000 + (i : Int) → ∃ ys, laws_markStringS.l0 k xs a (i : Int) = some (a + ((xs.length - i : Nat) : Int), ys) := by
  induction d with
  | zero =>
    intro k i xs a hd hk hi hl h0 h1
    obtain ⟨k, rfl⟩ : ∃ m, k = m + 1 := ⟨k - 1, by omega⟩
    rw [laws_markStringS.l0, if_neg (by omega), show xs.length - i = 0 from by omega]
    exact ⟨xs, by simp⟩
  | succ d ih =>
    intro k i xs a hd hk hi hl h0 h1
    obtain ⟨k, rfl⟩ : ∃ m, k = m + 1 := ⟨k - 1, by omega⟩
    by_cases hi2 : i < xs.length
    · rw [laws_markStringS.l0, if_pos (by omega), mkT_is a h0 (by omega) k (by omega), Option.bind_some, if_pos (by omega), w64 (n := a + 1) (by omega) (by omega), w64_len hi2 (by omega)]
      obtain ⟨ys, hy⟩ := ih k (i + 1) (xs.set (i : Int).toNat (mkT a)) (a + 1) (by simp; omega) (by omega) (by simp; omega) (by simp; omega) (by omega) (by omega)
      refine ⟨ys, ?_⟩
      rw [hy, List.length_set]
      congr 2
      omega
    · rw [laws_markStringS.l0, if_neg (by omega), show xs.length - i = 0 from by omega]
      exact ⟨xs, by simp⟩
theorem FnExactEnvOnly : laws_FnExactEnvOnly.Pure := by
  intro xs ns hx hl hn hnl
  have hl : xs.length ≤ 9223372036854775807 := by unfold maxLen at hl; exact hl
  refine ⟨xs.length + 100000000, ?_⟩
  unfold laws_FnExactEnvOnly.f
  obtain ⟨r, hr, hp⟩ := szVarS_is xs hx hl 1048576 (by omega) (by omega) (xs.length + 100000000) (by omega)
  rw [hr, Option.bind_some]
  by_cases h0 : r < 0
  · rw [if_pos h0]
  rw [if_neg h0]
  obtain ⟨hr1, hz, hs⟩ := hp (by omega)
  rcases szStringS_is ns hn hnl r (by omega) hr1 (xs.length + 100000000) (by omega) with e | ⟨t, e, t0, t1, hns⟩
  · rw [e, Option.bind_some, if_pos (by omega)]
  rw [e, Option.bind_some, if_neg (by omega)]
  have hlm : (xs.map toV).length ≤ 1048576 := by rw [List.length_map]; exact hz
  obtain ⟨ys, hys⟩ : ∃ ys, ys = xs.map toV := ⟨_, rfl⟩
  have hyl : ys.length ≤ 1048576 := by rw [hys]; exact hlm
  have hto : ∀ k, 1048576 < k → laws_toVarS.f k xs = some ys := fun k hk => by rw [hys]; exact toVarS_is xs hz k (by omega)
  clear hys
  have sp : ∀ k, 3000000 < k → spec_EnvOnly.f k ys ns = some (only ns ys) := fun k hk => specEnvOnly_is ys ns hyl hns k hk
  have im : impl_EnvOnly.f ys ns = some (only ns ys) := implEnvOnly_is ys ns hyl
  have hg := only_length ns ys
  generalize only ns ys = g at sp im hg
  have eqs : ∀ (zs : List S51) k, zs.length ≤ 3000000 → 3000000 < k → laws_eqVarS.f k zs zs = some true := fun zs k h1 h2 => eqVarS_self zs (by omega) k (by omega)
  have tos : ∀ k, 2000000 < k → laws_toStringS.f k ns = some ns := fun k hk => toStringS_is ns hns k hk
  generalize hK : xs.length + 100000000 = K
  have hK2 : 99999999 < K := by omega
  obtain ⟨zs, hm⟩ := markStringS_l0 ns.length K 0 ns (1 + 2 * (ys.length : Int)) (by omega) (by omega) (by omega) (by omega) (by omega) (by omega)
  have hm2 : laws_markStringS.f K ns (1 + 2 * (ys.length : Int)) = some (1 + 2 * (ys.length : Int) + ((ns.length - 0 : Nat) : Int), zs) := hm
  rw [hto K (by omega), Option.bind_some, tos K (by omega), Option.bind_some, sp K (by omega), Option.bind_some, Option.bind_some, Option.bind_some, im, Option.bind_some, eqs g K (by omega) (by omega), Option.bind_some, if_pos rfl, Option.bind_some,
    eqs ys K (by omega) (by omega), Option.bind_some, if_pos rfl, Option.bind_some, eqStringS_self ns hns K (by omega), Option.bind_some, if_pos rfl, markVarS_is ys (by omega) K (by omega), Option.bind_some]
  show (laws_markStringS.f K ns (1 + 2 * (ys.length : Int))).bind _ = _
  rw [hm2, Option.bind_some]
  show (if 1 + 2 * (ys.length : Int) + ((ns.length - 0 : Nat) : Int) < 0 then _ else _) = _
  rw [if_neg (by omega)]
  try rw [Option.bind_some]
  show laws_FnExactEnvOnly.j0 K xs ns g g (!true) = _
  obtain ⟨k, rfl⟩ : ∃ k, K = k + 1 := ⟨K - 1, by omega⟩
  rw [laws_FnExactEnvOnly.j0, if_neg (by simp), markVarS_is g (by omega) k (by omega), Option.bind_some]
  show (laws_heldVarS.f k (marked g 1) 1).bind _ = _
  rw [heldVarS_is g (by omega) k (by omega), Option.bind_some, if_neg (by omega)]
  show (if 1 + 2 * (g.length : Int) = 1 + 2 * (g.length : Int) then _ else _) = _
  rw [if_pos rfl, hto k (by omega), Option.bind_some, tos k (by omega), Option.bind_some, im, Option.bind_some, eqs g k (by omega) (by omega), Option.bind_some, if_pos rfl]
  rw [Option.bind_some, if_neg (by omega)]
  show (if 1 + 2 * (g.length : Int) = 1 + 2 * (g.length : Int) then _ else _) = _
  rw [if_pos rfl]

end Go.Proofs.Ytigibdkgimgknaa.Pure
