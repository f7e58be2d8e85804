/- FnExactEnvOk without Go: at every list of names the program's EnvOk and the reference's answer the same. -/
import Derived.Test.YtigibdkgimgknaaMFnExactEnvOkok
set_option linter.unusedVariables false
set_option linter.unusedSimpArgs false
set_option maxHeartbeats 400000
namespace Go.Proofs.Ytigibdkgimgknaa.Pure
open Go.RowKit Go.Proofs.Ytigibdkgimgknaa.MFnExactEnvOk Go.Proofs.YtigibdkgimgknaaW.PrintWords Go.Proofs.YtigibdkgimgknaaW.PrintLast
/-! ### base -/
theorem w64 {n : Int} (h : -9223372036854775808 ≤ n) (h' : n ≤ 9223372036854775807) : wrap64 n = n := by unfold wrap64; omega
theorem w64_succ {i m : Nat} (h : i < m) (hm : m ≤ 140737488351232) : wrap64 ((i : Int) + 1) = ((i + 1 : Nat) : Int) := by
  rw [w64 (by omega) (by omega)]; omega
theorem w64_bt (s : ByteArray) (i : Int) : wrap64 (bt s i) = bt s i := by
  have := bt_range s i
  exact w64 (by omega) (by omega)
/-- A string's bytes as numbers. -/
def bs (s : ByteArray) : List Int := s.data.toList.map fun b => (b.toNat : Int)
theorem bs_length (s : ByteArray) : (bs s).length = s.size := by simp [bs]
theorem bs_get (s : ByteArray) (i : Nat) (h : i < s.size) : (bs s)[i]? = some (bt s i) := by
  have h2 : i < s.data.toList.length := by simpa using h
  simp only [bs, List.getElem?_map, List.getElem?_eq_getElem h2, Option.map_some]
  unfold bt
  rw [dif_pos (by simpa using h)]
  rfl
theorem bs_drop (s : ByteArray) (i : Nat) (h : i < s.size) : (bs s).drop i = bt s i :: (bs s).drop (i + 1) := by
  have h2 : i < (bs s).length := by rw [bs_length]; exact h
  rw [List.drop_eq_getElem_cons h2]
  congr 1
  have := bs_get s i h
  rw [List.getElem?_eq_getElem h2] at this
  exact Option.some.inj this
theorem bs_drop_nil (s : ByteArray) (i : Nat) (h : s.size ≤ i) : (bs s).drop i = [] := List.drop_eq_nil_of_le (by rw [bs_length]; exact h)
theorem bs_range {s : ByteArray} {c : Int} (h : c ∈ bs s) : 0 ≤ c ∧ c ≤ 255 := by
  simp only [bs, List.mem_map] at h
  obtain ⟨b, _, rfl⟩ := h
  have := b.toNat_lt
  omega
theorem bs_inj {s t : ByteArray} (h : bs s = bs t) : s = t := by
  have hd : s.data.toList = t.data.toList := by
    refine List.map_inj_right (f := fun b : UInt8 => (b.toNat : Int)) (fun a b hab => ?_) |>.1 h
    have hab2 : (a.toNat : Int) = b.toNat := hab
    exact UInt8.toNat_inj.1 (by omega)
  cases s; cases t
  simp only [ByteArray.mk.injEq]
  exact Array.toList_inj.1 hd
theorem bs_str {xs : List Int} (h : ∀ x ∈ xs, 0 ≤ x ∧ x ≤ 255) : bs (strOfNums xs) = xs := by
  unfold bs strOfNums
  simp only [List.map_map]
  conv => rhs; rw [← List.map_id xs]
  refine List.map_congr_left fun x hx => ?_
  have := h x hx
  simp only [Function.comp, id, UInt8.toNat_ofNat']
  omega
theorem str_bs (s : ByteArray) : strOfNums (bs s) = s := bs_inj (bs_str fun _ hx => bs_range hx)
theorem str_size (xs : List Int) : (strOfNums xs).size = xs.length := by
  show ((xs.map fun n => UInt8.ofNat n.toNat).toArray).size = xs.length
  simp
theorem bs_append (s t : ByteArray) : bs (s ++ t) = bs s ++ bs t := by
  simp [bs]
theorem bs_empty : bs (⟨#[]⟩ : ByteArray) = [] := rfl
theorem bt_str {xs : List Int} (h : ∀ x ∈ xs, 0 ≤ x ∧ x ≤ 255) (i : Nat) (hi : i < xs.length) : bt (strOfNums xs) i = rd xs i := by
  have h1 := bs_get (strOfNums xs) i (by rw [str_size]; exact hi)
  rw [bs_str h] at h1
  unfold rd
  rw [List.getD_eq_getElem?_getD, Int.toNat_natCast, h1]
  rfl
theorem bt_bs (s : ByteArray) (i : Int) : bt s i = rd (bs s) i := by
  unfold rd
  rw [List.getD_eq_getElem?_getD]
  by_cases h : i.toNat < s.size
  · have := bs_get s i.toNat h
    rw [this]
    unfold bt
    simp only [Int.toNat_natCast]
    rw [dif_pos h]
    rfl
  · rw [List.getElem?_eq_none (by rw [bs_length]; omega)]
    unfold bt
    rw [dif_neg h]
    rfl
theorem toList_eq {s t : ByteArray} : s.toList = t.toList ↔ s = t := by
  rw [ByteArray.toList_eq, ByteArray.toList_eq]
  constructor
  · intro h; cases s; cases t; simpa [Array.toList_inj] using h
  · rintro rfl; rfl
theorem tdiv_e {n : Int} (h : 0 ≤ n) (m : Int) : Int.tdiv n m = n / m := Int.tdiv_eq_ediv_of_nonneg h
theorem tmod_e {n : Int} (h : 0 ≤ n) (m : Int) : Int.tmod n m = n % m := Int.tmod_eq_emod_of_nonneg h

/-! ### lists -/
theorem drop_get {α : Type} (xs : List α) (i : Nat) (h : i < xs.length) : xs.drop i = xs[i] :: xs.drop (i + 1) := List.drop_eq_getElem_cons h
theorem w64_len {i n : Nat} (h : i < n) (hn : n ≤ 9223372036854775807) : wrap64 ((i : Int) + 1) = ((i + 1 : Nat) : Int) := by
  rw [w64 (by omega) (by omega)]; omega
theorem take_set {α : Type} (acc : List α) (i : Nat) (v : α) (h : i < acc.length) : (acc.set i v).take (i + 1) = acc.take i ++ [v] := by
  rw [List.take_add_one, List.getElem?_set_self h, List.take_set_of_le (Nat.le_refl i)]; rfl

/-! ### lawsVar -/
/-! what the laws' own small functions tell of names and numbers -/
theorem rdL (xs : List S92) (i : Nat) (h : i < xs.length) : rd_T92 xs (i : Int) = xs[i] := by simp [rd_T92, List.getD, h]
theorem rdI (xs : List S51) (i : Nat) (h : i < xs.length) : rd_T51 xs (i : Int) = xs[i] := by simp [rd_T51, List.getD, h]
def szOk (xs : List S92) : Prop := xs.length ≤ 1048576 ∧ ∀ y ∈ xs, y.f0.size ≤ 1048576
theorem szVarS_l0 (xs : List S92) (hx : ∀ y ∈ xs, ok92 y) (hl : xs.length ≤ 9223372036854775807) (d : Nat) : ∀ (k i : Nat) (left : Int), xs.length - i ≤ d → d < k → 0 ≤ left → left ≤ 1048576 →
    ∃ r, laws_szVarS.l0 k xs left (i : Int) = some r ∧ (0 ≤ r → r ≤ 1048576 ∧ ∀ y ∈ xs.drop i, y.f0.size ≤ 1048576) := by
  induction d with
  | zero =>
    intro k i left hd hk h0 h1
    obtain ⟨k, rfl⟩ : ∃ m, k = m + 1 := ⟨k - 1, by omega⟩
    refine ⟨left, ?_, fun _ => ⟨h1, ?_⟩⟩
    · rw [laws_szVarS.l0, if_neg (by omega)]
    · rw [List.drop_eq_nil_of_le (by omega)]; simp
  | succ d ih =>
    intro k i left hd hk h0 h1
    obtain ⟨k, rfl⟩ : ∃ m, k = m + 1 := ⟨k - 1, by omega⟩
    by_cases hi : i < xs.length
    · have hs : xs[i].f0.size ≤ 9223372036854775807 := by have := (hx xs[i] (List.getElem_mem hi)).1; unfold maxLen at this; exact this
      rw [laws_szVarS.l0, if_pos (by omega), if_pos (by omega), rdL xs i hi, w64_len hi hl]
      unfold laws_szVar.f
      rw [w64 (n := left - (xs[i].f0.size : Int)) (by omega) (by omega)]
      by_cases h2 : left - (xs[i].f0.size : Int) < 0
      · rw [if_pos h2, Option.bind_some, if_pos (by omega)]
        exact ⟨-1, rfl, fun h => absurd h (by omega)⟩
      · rw [if_neg h2, Option.bind_some, if_neg h2]
        obtain ⟨r, hr, hp⟩ := ih k (i + 1) (left - (xs[i].f0.size : Int)) (by omega) (by omega) (by omega) (by omega)
        refine ⟨r, hr, fun h => ?_⟩
        obtain ⟨p1, p2⟩ := hp h
        refine ⟨p1, fun y hy => ?_⟩
        rw [drop_get xs i hi, List.mem_cons] at hy
        rcases hy with rfl | hy
        · omega
        · exact p2 y hy
    · refine ⟨left, ?_, fun _ => ⟨h1, ?_⟩⟩
      · rw [laws_szVarS.l0, if_neg (by omega)]
      · rw [List.drop_eq_nil_of_le (by omega)]; simp
theorem szVarS_is (xs : List S92) (hx : ∀ y ∈ xs, ok92 y) (hl : xs.length ≤ 9223372036854775807) (left : Int) (h0 : 0 ≤ left) (h1 : left ≤ 1048576) (k : Nat) (hk : xs.length < k) :
    ∃ r, laws_szVarS.f k xs left = some r ∧ (0 ≤ r → r ≤ 1048576 ∧ szOk xs) := by
  unfold laws_szVarS.f
  rw [w64 (n := left - (xs.length : Int)) (by omega) (by omega)]
  by_cases h2 : left - (xs.length : Int) < 0
  · rw [if_pos h2]; exact ⟨-1, rfl, fun h => absurd h (by omega)⟩
  · rw [if_neg h2]
    obtain ⟨r, hr, hp⟩ := szVarS_l0 xs hx hl xs.length k 0 (left - (xs.length : Int)) (by omega) hk (by omega) (by omega)
    refine ⟨r, hr, fun h => ?_⟩
    obtain ⟨p1, p2⟩ := hp h
    exact ⟨p1, by omega, by simpa using p2⟩
/-- A name and its number, as the program has them. -/
def toV (x : S92) : S51 := ⟨x.f0, x.f1⟩
theorem toVarS_l0 (xs : List S92) (hl : xs.length ≤ 1048576) (d : Nat) : ∀ (k i : Nat) (acc : List S51), xs.length - i ≤ d → d < k → i ≤ xs.length → acc.length = xs.length → acc.take i = (xs.take i).map toV →
    laws_toVarS.l0 k xs acc (i : Int) = some (xs.map toV) := by
  induction d with
  | zero =>
    intro k i acc hd hk hi ha ht
    obtain ⟨k, rfl⟩ : ∃ m, k = m + 1 := ⟨k - 1, by omega⟩
    rw [laws_toVarS.l0, if_neg (by omega)]
    rw [show i = xs.length from by omega, List.take_length, ← ha, List.take_length] at ht
    rw [ht]
  | succ d ih =>
    intro k i acc hd hk hi ha ht
    obtain ⟨k, rfl⟩ : ∃ m, k = m + 1 := ⟨k - 1, by omega⟩
    by_cases hi2 : i < xs.length
    · rw [laws_toVarS.l0, if_pos (by omega), if_pos (by omega), rdL xs i hi2]
      unfold laws_toVar.f
      rw [Option.bind_some, if_pos (by omega), w64_len hi2 (by omega), show ((i : Int)).toNat = i from by omega]
      refine ih k (i + 1) _ (by omega) (by omega) (by omega) (by rw [List.length_set]; exact ha) ?_
      rw [take_set acc i _ (by omega), ht, List.take_add_one, List.getElem?_eq_getElem hi2, List.map_append]
      rfl
    · rw [laws_toVarS.l0, if_neg (by omega)]
      rw [show i = xs.length from by omega, List.take_length, ← ha, List.take_length] at ht
      rw [ht]
theorem toVarS_is (xs : List S92) (hl : xs.length ≤ 1048576) (k : Nat) (hk : xs.length < k) : laws_toVarS.f k xs = some (xs.map toV) := by
  unfold laws_toVarS.f
  rw [if_pos (by omega), if_pos (by omega)]
  exact toVarS_l0 xs hl xs.length k 0 _ (by omega) hk (by omega) (by simp) (by simp)
theorem eqVarS_l0 (xs : List S51) (hl : xs.length ≤ 9223372036854775807) (d : Nat) : ∀ (k i : Nat), xs.length - i ≤ d → d < k → laws_eqVarS.l0 k xs xs (i : Int) = some true := by
  induction d with
  | zero =>
    intro k i hd hk
    obtain ⟨k, rfl⟩ : ∃ m, k = m + 1 := ⟨k - 1, by omega⟩
    rw [laws_eqVarS.l0, if_neg (by omega)]
  | succ d ih =>
    intro k i hd hk
    obtain ⟨k, rfl⟩ : ∃ m, k = m + 1 := ⟨k - 1, by omega⟩
    by_cases hi : i < xs.length
    · rw [laws_eqVarS.l0, if_pos (by omega), if_pos (by omega), if_pos (by omega)]
      unfold laws_eqVar.f
      simp only [if_true, Option.bind_some]
      rw [w64_len hi hl]
      exact ih k (i + 1) (by omega) (by omega)
    · rw [laws_eqVarS.l0, if_neg (by omega)]
theorem eqVarS_self (xs : List S51) (hl : xs.length ≤ 9223372036854775807) (k : Nat) (hk : xs.length < k) : laws_eqVarS.f k xs xs = some true := by
  unfold laws_eqVarS.f
  rw [if_pos rfl]
  exact eqVarS_l0 xs hl xs.length k 0 (by omega) hk

/-! ### varNameB -/
/-- 1 to 4 letters a-z. -/
def small (c : Int) : Bool := decide (97 ≤ c ∧ c ≤ 122)
def varNameB (s : ByteArray) : Bool := (bs s).all small && decide (1 ≤ (s.size : Int) ∧ (s.size : Int) ≤ 4)

/-! ### envOk -/
theorem rdI' (xs : List S51) (i : Nat) (h : i < xs.length) : rd_T51 xs (i : Int) = xs[i] := by simp [rd_T51, List.getD, h]
def lessB (a b : ByteArray) : Bool := Op.bytesLess a.toList b.toList
def numB (n : Int) : Bool := decide (-9999 ≤ n ∧ n ≤ 9999)
/-- From a name on, the one ahead of it at hand. -/
def envRest : Option ByteArray → List S51 → Bool
  | _, [] => true
  | p, v :: l => varNameB v.f0 && numB v.f1 && (match p with | none => true | some a => lessB a v.f0) && envRest (some v.f0) l
def envOkB (xs : List S51) : Bool := envRest none xs && decide ((xs.length : Int) ≤ 6)
/-- The name ahead of place i. -/
def ahead (xs : List S51) (i : Nat) : Option ByteArray := if i = 0 then none else some (xs.getD (i - 1) z51).f0
theorem ahead_succ (xs : List S51) (i : Nat) (h : i < xs.length) : ahead xs (i + 1) = some xs[i].f0 := by simp [ahead, List.getD, h]

/-! ### l01In -/
theorem l01In_is (a b c : Int) : spec_l01In.f a b c = some (decide (b ≤ a ∧ a ≤ c)) := by
  unfold spec_l01In.f
  by_cases h : a ≥ b
  · rw [if_pos h]; simp [show b ≤ a from h]
  · rw [if_neg h]; simp [show ¬ b ≤ a from h]

/-! ### specVarName -/
theorem specVarName_l0 (s : ByteArray) (hs : s.size ≤ 140737488351232) (d : Nat) : ∀ (k i : Nat), s.size - i ≤ d → d < k →
    spec_VarName.l0 k s (i : Int) = some (((bs s).drop i).all small && decide (1 ≤ (s.size : Int) ∧ (s.size : Int) ≤ 4)) := by
  induction d with
  | zero =>
    intro k i hd hk
    obtain ⟨k, rfl⟩ : ∃ m, k = m + 1 := ⟨k - 1, by omega⟩
    simp only [spec_VarName.l0]
    rw [if_neg (by omega), l01In_is, bs_drop_nil s i (by omega)]; simp
  | succ d ih =>
    intro k i hd hk
    obtain ⟨k, rfl⟩ : ∃ m, k = m + 1 := ⟨k - 1, by omega⟩
    by_cases hi : i < s.size
    · have e := ih k (i + 1) (by omega) (by omega)
      simp only [spec_VarName.l0]
      rw [if_pos (by omega), if_pos (by omega), w64_succ hi hs, e, bs_drop s i hi]
      simp only [List.all_cons]
      by_cases h1 : bt s i < 97
      · rw [if_pos h1, show small (bt s i) = false from by simp [small]; omega]; simp
      · by_cases h2 : bt s i > 122
        · rw [if_neg h1, if_pos h2, show small (bt s i) = false from by simp [small]; omega]; simp
        · rw [if_neg h1, if_neg h2, show small (bt s i) = true from by simp [small]; omega]; simp
    · simp only [spec_VarName.l0]
      rw [if_neg (by omega), l01In_is, bs_drop_nil s i (by omega)]; simp
theorem specVarName_is (s : ByteArray) (hs : s.size ≤ 140737488351232) (k : Nat) (hk : s.size < k) : spec_VarName.f k s = some (varNameB s) := by
  unfold spec_VarName.f
  exact specVarName_l0 s hs s.size k 0 (by omega) hk

/-! ### specEnvOk -/
theorem specEnvOk_l0 (B : Nat) (hB : B ≤ 140737488351232) (xs : List S51) (hx : ∀ y ∈ xs, y.f0.size ≤ B) (hl : xs.length ≤ 9223372036854775807) (d : Nat) : ∀ (k i : Nat), xs.length - i ≤ d → d + B < k →
    spec_EnvOk.l0 k xs (i : Int) = some (envRest (ahead xs i) (xs.drop i) && decide ((xs.length : Int) ≤ 6)) := by
  induction d with
  | zero =>
    intro k i hd hk
    obtain ⟨k, rfl⟩ : ∃ m, k = m + 1 := ⟨k - 1, by omega⟩
    rw [spec_EnvOk.l0, if_neg (by omega), List.drop_eq_nil_of_le (by omega)]; simp [envRest]
  | succ d ih =>
    intro k i hd hk
    obtain ⟨k, rfl⟩ : ∃ m, k = m + 1 := ⟨k - 1, by omega⟩
    by_cases hi : i < xs.length
    · have hs : xs[i].f0.size ≤ B := hx _ (List.getElem_mem hi)
      have e := ih k (i + 1) (by omega) (by omega)
      rw [ahead_succ xs i hi] at e
      rw [spec_EnvOk.l0, if_pos (by omega), if_pos (by omega), rdI' xs i hi, specVarName_is _ (by omega) k (by omega), Option.bind_some, w64_len hi hl, e, drop_get xs i hi]
      simp only [envRest]
      by_cases h1 : varNameB xs[i].f0 = true
      · rw [if_pos h1, l01In_is, Option.bind_some, h1, show decide (-9999 ≤ xs[i].f1 ∧ xs[i].f1 ≤ 9999) = numB xs[i].f1 from rfl]
        by_cases h2 : numB xs[i].f1 = true
        · rw [if_pos h2, h2]
          by_cases h3 : (i : Int) > 0
          · have e2 : wrap64 ((i : Int) - 1) = ((i - 1 : Nat) : Int) := by rw [w64 (by omega) (by omega)]; omega
            rw [if_pos h3, e2, if_pos (by omega), if_pos (by omega), rdI' xs (i - 1) (by omega)]
            have ha : ahead xs i = some xs[i - 1].f0 := by
              unfold ahead
              rw [if_neg (by omega)]
              simp [List.getD, List.getElem?_eq_getElem (show i - 1 < xs.length by omega)]
            rw [ha, show Op.bytesLess xs[i - 1].f0.toList xs[i].f0.toList = lessB xs[i - 1].f0 xs[i].f0 from rfl]
            by_cases h4 : lessB xs[i - 1].f0 xs[i].f0 = true
            · rw [if_pos h4]; simp [h4]
            · rw [if_neg h4]; simp [h4]
          · rw [if_neg h3]
            have ha : ahead xs i = none := by unfold ahead; rw [if_pos (by omega)]
            rw [ha]; simp
        · rw [if_neg h2]; simp [h2]
      · rw [if_neg h1]; simp [h1]
    · rw [spec_EnvOk.l0, if_neg (by omega), List.drop_eq_nil_of_le (by omega)]; simp [envRest]
theorem specEnvOk_is (B : Nat) (hB : B ≤ 140737488351232) (xs : List S51) (hx : ∀ y ∈ xs, y.f0.size ≤ B) (hl : xs.length ≤ 9223372036854775807) (k : Nat) (hk : xs.length + B < k) : spec_EnvOk.f k xs = some (envOkB xs) := by
  unfold spec_EnvOk.f
  exact specEnvOk_l0 B hB xs hx hl xs.length k 0 (by omega) hk

/-! ### within -/
theorem within_is (a b c : Int) : impl_within.f a b c = some (decide (b ≤ a ∧ a ≤ c)) := by
  unfold impl_within.f
  by_cases h : a ≥ b
  · rw [if_pos h]; simp [show b ≤ a from h]
  · rw [if_neg h]; simp [show ¬ b ≤ a from h]

/-! ### isSmall -/
theorem isSmall_is (s : ByteArray) (i : Int) : impl_isSmall.f (bt s i) = some (decide (97 ≤ bt s i ∧ bt s i ≤ 122)) := by
  unfold impl_isSmall.f
  rw [w64_bt, within_is]; rfl

/-! ### implVarName -/
theorem implVarName_l0 (s : ByteArray) (hs : s.size ≤ 140737488351232) (d : Nat) : ∀ (k i : Nat), s.size - i ≤ d → d < k →
    impl_VarName.l0 k s (s.size : Int) (i : Int) = some (((bs s).drop i).all small && decide (1 ≤ (s.size : Int) ∧ (s.size : Int) ≤ 4)) := by
  induction d with
  | zero =>
    intro k i hd hk
    obtain ⟨k, rfl⟩ : ∃ m, k = m + 1 := ⟨k - 1, by omega⟩
    simp only [impl_VarName.l0]
    rw [if_neg (by omega), within_is, bs_drop_nil s i (by omega)]; simp
  | succ d ih =>
    intro k i hd hk
    obtain ⟨k, rfl⟩ : ∃ m, k = m + 1 := ⟨k - 1, by omega⟩
    by_cases hi : i < s.size
    · have e := ih k (i + 1) (by omega) (by omega)
      simp only [impl_VarName.l0]
      rw [if_pos (by omega), if_pos (by omega), if_pos (by omega), isSmall_is, Option.bind_some, w64_succ hi hs, e, bs_drop s i hi]
      simp only [List.all_cons]
      by_cases h1 : 97 ≤ bt s i ∧ bt s i ≤ 122
      · rw [if_pos (by simpa using h1), show small (bt s i) = true from by simp [small]; omega]; simp
      · rw [if_neg (by simpa using h1), show small (bt s i) = false from by simp [small]; omega]; simp
    · simp only [impl_VarName.l0]
      rw [if_neg (by omega), within_is, bs_drop_nil s i (by omega)]; simp
theorem implVarName_is (s : ByteArray) (hs : s.size ≤ 140737488351232) (k : Nat) (hk : s.size < k) : impl_VarName.f k s = some (varNameB s) := by
  unfold impl_VarName.f
  exact implVarName_l0 s hs s.size k 0 (by omega) hk

/-! ### isNum -/
theorem isNum_is (n : Int) : impl_isNum.f n = some (decide (-9999 ≤ n ∧ n ≤ 9999)) := by
  unfold impl_isNum.f
  rw [within_is]; rfl

/-! ### implEnvOk -/
theorem implEnvOk_l0 (B : Nat) (hB : B ≤ 140737488351232) (xs : List S51) (hx : ∀ y ∈ xs, y.f0.size ≤ B) (hl : xs.length ≤ 9223372036854775807) (d : Nat) : ∀ (k i : Nat), xs.length - i ≤ d → d + B < k →
    impl_EnvOk.l0 k xs xs (xs.length : Int) (i : Int) = some (envRest (ahead xs i) (xs.drop i) && decide ((xs.length : Int) ≤ 6)) := by
  induction d with
  | zero =>
    intro k i hd hk
    obtain ⟨k, rfl⟩ : ∃ m, k = m + 1 := ⟨k - 1, by omega⟩
    rw [impl_EnvOk.l0, if_neg (by omega), List.drop_eq_nil_of_le (by omega)]; simp [envRest]
  | succ d ih =>
    intro k i hd hk
    obtain ⟨k, rfl⟩ : ∃ m, k = m + 1 := ⟨k - 1, by omega⟩
    by_cases hi : i < xs.length
    · have hs : xs[i].f0.size ≤ B := hx _ (List.getElem_mem hi)
      have e := ih k (i + 1) (by omega) (by omega)
      rw [ahead_succ xs i hi] at e
      rw [impl_EnvOk.l0, if_pos (by omega), if_pos (by omega), if_pos (by omega), rdI' xs i hi, implVarName_is _ (by omega) k (by omega), Option.bind_some, w64_len hi hl, e, drop_get xs i hi]
      simp only [envRest]
      by_cases h1 : varNameB xs[i].f0 = true
      · rw [if_pos h1, isNum_is, Option.bind_some, h1, show decide (-9999 ≤ xs[i].f1 ∧ xs[i].f1 ≤ 9999) = numB xs[i].f1 from rfl]
        by_cases h2 : numB xs[i].f1 = true
        · rw [if_pos h2, h2]
          by_cases h3 : (i : Int) > 0
          · have e2 : wrap64 ((i : Int) - 1) = ((i - 1 : Nat) : Int) := by rw [w64 (by omega) (by omega)]; omega
            rw [if_pos h3, e2, if_pos (by omega), if_pos (by omega), rdI' xs (i - 1) (by omega)]
            have ha : ahead xs i = some xs[i - 1].f0 := by
              unfold ahead
              rw [if_neg (by omega)]
              simp [List.getD, List.getElem?_eq_getElem (show i - 1 < xs.length by omega)]
            rw [ha, show Op.bytesLess xs[i - 1].f0.toList xs[i].f0.toList = lessB xs[i - 1].f0 xs[i].f0 from rfl]
            by_cases h4 : lessB xs[i - 1].f0 xs[i].f0 = true
            · rw [if_pos h4]; simp [h4]
            · rw [if_neg h4]; simp [h4]
          · rw [if_neg h3]
            have ha : ahead xs i = none := by unfold ahead; rw [if_pos (by omega)]
            rw [ha]; simp
        · rw [if_neg h2]; simp [h2]
      · rw [if_neg h1]; simp [h1]
    · rw [impl_EnvOk.l0, if_neg (by omega), List.drop_eq_nil_of_le (by omega)]; simp [envRest]
theorem implEnvOk_is (B : Nat) (hB : B ≤ 140737488351232) (xs : List S51) (hx : ∀ y ∈ xs, y.f0.size ≤ B) (hl : xs.length ≤ 9223372036854775807) (k : Nat) (hk : xs.length + B < k) : impl_EnvOk.f k xs = some (envOkB xs) := by
  unfold impl_EnvOk.f
  exact implEnvOk_l0 B hB xs hx hl xs.length k 0 (by omega) hk

/-! ### FnExactEnvOk -/
theorem FnExactEnvOk : laws_FnExactEnvOk.Pure := by
  intro xs hx hl
  have hl : xs.length ≤ 9223372036854775807 := by unfold maxLen at hl; exact hl
  refine ⟨xs.length + 1048580, ?_⟩
  unfold laws_FnExactEnvOk.f
  obtain ⟨r, hr, hp⟩ := szVarS_is xs hx hl 1048576 (by omega) (by omega) (xs.length + 1048580) (by omega)
  rw [hr, Option.bind_some]
  by_cases h0 : r < 0
  · rw [if_pos h0]
  · obtain ⟨hz, hs⟩ := (hp (by omega)).2
    have hm : ∀ y ∈ xs.map toV, y.f0.size ≤ 1048576 := by
      intro y hy
      obtain ⟨x, hx2, rfl⟩ := List.mem_map.1 hy
      exact hs x hx2
    rw [if_neg h0, toVarS_is xs hz _ (by omega), Option.bind_some, specEnvOk_is 1048576 (by omega) _ hm (by rw [List.length_map]; exact hl) _ (by rw [List.length_map]; omega), Option.bind_some, Option.bind_some,
      implEnvOk_is 1048576 (by omega) _ hm (by rw [List.length_map]; exact hl) _ (by rw [List.length_map]; omega), Option.bind_some, if_neg (by simp), Option.bind_some,
      eqVarS_self _ (by rw [List.length_map]; exact hl) _ (by rw [List.length_map]; omega)]
    simp

end Go.Proofs.Ytigibdkgimgknaa.Pure
