/- FnExactBindNum without Go: at every string the program's BindNum and the reference's answer the same. -/
import Derived.Test.YtlgdkpoaldaabaaPFnExactBindNumx1
set_option linter.unusedVariables false
set_option linter.unusedSimpArgs false
set_option maxHeartbeats 400000
namespace Go.Proofs.Ytlgdkpoaldaabaa.Pure
open Go.RowKit Go.Proofs.Ytlgdkpoaldaabaa.PFnExactBindNum Go.Proofs.YtlgdkpoaldaabaaW.PrintWords Go.Proofs.YtlgdkpoaldaabaaW.PrintLast
/-! ### base -/
theorem w64 {n : Int} (h : -9223372036854775808 ≤ n) (h' : n ≤ 9223372036854775807) : wrap64 n = n := by unfold wrap64; omega
theorem w64_succ {i m : Nat} (h : i < m) (hm : m ≤ 140737488351232) : wrap64 ((i : Int) + 1) = ((i + 1 : Nat) : Int) := by
  rw [w64 (by omega) (by omega)]; omega
theorem w64_bt (s : ByteArray) (i : Int) : wrap64 (bt s i) = bt s i := by
  have := bt_range s i
  exact w64 (by omega) (by omega)
/-- A string's bytes as numbers. -/
def bs (s : ByteArray) : List Int := s.data.toList.map fun b => (b.toNat : Int)
theorem bs_length (s : ByteArray) : (bs s).length = s.size := by simp [bs]
theorem bs_get (s : ByteArray) (i : Nat) (h : i < s.size) : (bs s)[i]? = some (bt s i) := by
  have h2 : i < s.data.toList.length := by simpa using h
  simp only [bs, List.getElem?_map, List.getElem?_eq_getElem h2, Option.map_some]
  unfold bt
  rw [dif_pos (by simpa using h)]
  rfl
theorem bs_drop (s : ByteArray) (i : Nat) (h : i < s.size) : (bs s).drop i = bt s i :: (bs s).drop (i + 1) := by
  have h2 : i < (bs s).length := by rw [bs_length]; exact h
  rw [List.drop_eq_getElem_cons h2]
  congr 1
  have := bs_get s i h
  rw [List.getElem?_eq_getElem h2] at this
  exact Option.some.inj this
theorem bs_drop_nil (s : ByteArray) (i : Nat) (h : s.size ≤ i) : (bs s).drop i = [] := List.drop_eq_nil_of_le (by rw [bs_length]; exact h)
theorem bs_range {s : ByteArray} {c : Int} (h : c ∈ bs s) : 0 ≤ c ∧ c ≤ 255 := by
  simp only [bs, List.mem_map] at h
  obtain ⟨b, _, rfl⟩ := h
  have := b.toNat_lt
  omega
theorem bs_inj {s t : ByteArray} (h : bs s = bs t) : s = t := by
  have hd : s.data.toList = t.data.toList := by
    refine List.map_inj_right (f := fun b : UInt8 => (b.toNat : Int)) (fun a b hab => ?_) |>.1 h
    have hab2 : (a.toNat : Int) = b.toNat := hab
    exact UInt8.toNat_inj.1 (by omega)
  cases s; cases t
  simp only [ByteArray.mk.injEq]
  exact Array.toList_inj.1 hd
theorem bs_str {xs : List Int} (h : ∀ x ∈ xs, 0 ≤ x ∧ x ≤ 255) : bs (strOfNums xs) = xs := by
  unfold bs strOfNums
  simp only [List.map_map]
  conv => rhs; rw [← List.map_id xs]
  refine List.map_congr_left fun x hx => ?_
  have := h x hx
  simp only [Function.comp, id, UInt8.toNat_ofNat']
  omega
theorem str_bs (s : ByteArray) : strOfNums (bs s) = s := bs_inj (bs_str fun _ hx => bs_range hx)
theorem str_size (xs : List Int) : (strOfNums xs).size = xs.length := by
  show ((xs.map fun n => UInt8.ofNat n.toNat).toArray).size = xs.length
  simp
theorem bs_append (s t : ByteArray) : bs (s ++ t) = bs s ++ bs t := by
  simp [bs]
theorem bs_empty : bs (⟨#[]⟩ : ByteArray) = [] := rfl
theorem bt_str {xs : List Int} (h : ∀ x ∈ xs, 0 ≤ x ∧ x ≤ 255) (i : Nat) (hi : i < xs.length) : bt (strOfNums xs) i = rd xs i := by
  have h1 := bs_get (strOfNums xs) i (by rw [str_size]; exact hi)
  rw [bs_str h] at h1
  unfold rd
  rw [List.getD_eq_getElem?_getD, Int.toNat_natCast, h1]
  rfl
theorem bt_bs (s : ByteArray) (i : Int) : bt s i = rd (bs s) i := by
  unfold rd
  rw [List.getD_eq_getElem?_getD]
  by_cases h : i.toNat < s.size
  · have := bs_get s i.toNat h
    rw [this]
    unfold bt
    simp only [Int.toNat_natCast]
    rw [dif_pos h]
    rfl
  · rw [List.getElem?_eq_none (by rw [bs_length]; omega)]
    unfold bt
    rw [dif_neg h]
    rfl
theorem toList_eq {s t : ByteArray} : s.toList = t.toList ↔ s = t := by
  rw [ByteArray.toList_eq, ByteArray.toList_eq]
  constructor
  · intro h; cases s; cases t; simpa [Array.toList_inj] using h
  · rintro rfl; rfl
theorem tdiv_e {n : Int} (h : 0 ≤ n) (m : Int) : Int.tdiv n m = n / m := Int.tdiv_eq_ediv_of_nonneg h
theorem tmod_e {n : Int} (h : 0 ≤ n) (m : Int) : Int.tmod n m = n % m := Int.tmod_eq_emod_of_nonneg h

/-! ### l01In -/
theorem l01In_is (a b c : Int) : spec_l01In.f a b c = some (decide (b ≤ a ∧ a ≤ c)) := by
  unfold spec_l01In.f
  by_cases h : a ≥ b
  · rw [if_pos h]; simp [show b ≤ a from h]
  · rw [if_neg h]; simp [show ¬ b ≤ a from h]

/-! ### within -/
theorem within_is (a b c : Int) : impl_within.f a b c = some (decide (b ≤ a ∧ a ≤ c)) := by
  unfold impl_within.f
  by_cases h : a ≥ b
  · rw [if_pos h]; simp [show b ≤ a from h]
  · rw [if_neg h]; simp [show ¬ b ≤ a from h]

/-! ### isFigure -/
theorem isFigure_is (s : ByteArray) (i : Int) : impl_isFigure.f (bt s i) = some (decide (48 ≤ bt s i ∧ bt s i ≤ 57)) := by
  unfold impl_isFigure.f
  rw [w64_bt, within_is]; rfl

/-! ### bindNum -/
def fig (c : Int) : Bool := decide (48 ≤ c ∧ c ≤ 57)
def cutLen (s : ByteArray) : Int := if (s.size : Int) > 99 then 99 else s.size
theorem specBind_false (s : ByteArray) (hs : s.size ≤ 140737488351232) (d : Nat) : ∀ (k i : Nat) (n : Int), s.size - i ≤ d → d < k →
    spec_BindNum.l0 k s n false (i : Int) = some (cutLen s) := by
  induction d with
  | zero =>
    intro k i n hd hk
    obtain ⟨k, rfl⟩ : ∃ m, k = m + 1 := ⟨k - 1, by omega⟩
    rw [spec_BindNum.l0, if_neg (by omega), if_neg (by simp)]
    unfold cutLen; split <;> rfl
  | succ d ih =>
    intro k i n hd hk
    obtain ⟨k, rfl⟩ : ∃ m, k = m + 1 := ⟨k - 1, by omega⟩
    by_cases hi : i < s.size
    · rw [spec_BindNum.l0, if_pos (by omega), if_neg (by simp), if_pos (by omega), w64_succ hi hs]
      exact ih k (i + 1) _ (by omega) (by omega)
    · rw [spec_BindNum.l0, if_neg (by omega), if_neg (by simp)]
      unfold cutLen; split <;> rfl
theorem specBind_step (s : ByteArray) (hs : s.size ≤ 140737488351232) (k i : Nat) (n : Int) (hn : 0 ≤ n ∧ n ≤ 9) (hi : i < s.size) (hk : s.size < k) :
    spec_BindNum.l0 (k + 1) s n true (i : Int) = if fig (bt s i) then spec_BindNum.l0 k s (10 * n + bt s i - 48) true ((i + 1 : Nat) : Int) else some (cutLen s) := by
  have hb := bt_range s i
  rw [spec_BindNum.l0, if_pos (by omega), if_pos rfl, if_pos (by omega), w64_succ hi hs]
  rw [w64 (n := bt s i) (by omega) (by omega), w64 (n := 10 * n) (by omega) (by omega), w64 (n := 10 * n + bt s i) (by omega) (by omega), w64 (n := 10 * n + bt s i - 48) (by omega) (by omega)]
  by_cases h : fig (bt s i) = true
  · rw [if_pos h]
    simp only [fig, decide_eq_true_eq] at h
    rw [if_pos h.1, show decide (bt s i ≤ 57) = true from by simpa using h.2]
  · rw [if_neg h]
    have h' : ¬ (48 ≤ bt s i ∧ bt s i ≤ 57) := by simpa [fig] using h
    by_cases h1 : bt s i ≥ 48
    · rw [if_pos h1, show decide (bt s i ≤ 57) = false from by simp only [decide_eq_false_iff_not]; omega]
      exact specBind_false s hs s.size k (i + 1) _ (by omega) hk
    · rw [if_neg h1]
      exact specBind_false s hs s.size k (i + 1) _ (by omega) hk
theorem implBind_false (s : ByteArray) (hs : s.size ≤ 140737488351232) (d : Nat) : ∀ (k i : Nat) (n : Int), s.size - i ≤ d → d < k →
    impl_BindNum.l0 k s false n (s.size : Int) (i : Int) = some (cutLen s) := by
  induction d with
  | zero =>
    intro k i n hd hk
    obtain ⟨k, rfl⟩ : ∃ m, k = m + 1 := ⟨k - 1, by omega⟩
    rw [impl_BindNum.l0, if_neg (by omega), if_neg (by simp)]
    unfold cutLen mn; rfl
  | succ d ih =>
    intro k i n hd hk
    obtain ⟨k, rfl⟩ : ∃ m, k = m + 1 := ⟨k - 1, by omega⟩
    by_cases hi : i < s.size
    · rw [impl_BindNum.l0, if_pos (by omega), if_neg (by simp), if_pos (by omega), if_pos (by omega), w64_succ hi hs]
      exact ih k (i + 1) _ (by omega) (by omega)
    · rw [impl_BindNum.l0, if_neg (by omega), if_neg (by simp)]
      unfold cutLen mn; rfl
theorem implBind_step (s : ByteArray) (hs : s.size ≤ 140737488351232) (k i : Nat) (n : Int) (hn : 0 ≤ n ∧ n ≤ 9) (hi : i < s.size) (hk : s.size < k) :
    impl_BindNum.l0 (k + 1) s true n (s.size : Int) (i : Int) = if fig (bt s i) then impl_BindNum.l0 k s true (10 * n + bt s i - 48) (s.size : Int) ((i + 1 : Nat) : Int) else some (cutLen s) := by
  have hb := bt_range s i
  rw [impl_BindNum.l0, if_pos (by omega), if_pos rfl, if_pos (by omega), if_pos (by omega), isFigure_is, Option.bind_some, w64_succ hi hs]
  rw [w64 (n := bt s i) (by omega) (by omega), w64 (n := 10 * n) (by omega) (by omega), w64 (n := 10 * n + bt s i) (by omega) (by omega), w64 (n := 10 * n + bt s i - 48) (by omega) (by omega)]
  by_cases h : fig (bt s i) = true
  · rw [if_pos h]
    simp only [fig, decide_eq_true_eq] at h
    rw [show decide (48 ≤ bt s i ∧ bt s i ≤ 57) = true from by simpa using h, tmod_e (by omega), show (10 * n + bt s i - 48) % 1000000000 = 10 * n + bt s i - 48 from by omega]
  · rw [if_neg h]
    have h' : ¬ (48 ≤ bt s i ∧ bt s i ≤ 57) := by simpa [fig] using h
    rw [show decide (48 ≤ bt s i ∧ bt s i ≤ 57) = false from by simpa using h']
    exact implBind_false s hs s.size k (i + 1) _ (by omega) hk
/-- What BindNum tells of a string. -/
def bindR (s : ByteArray) : Int :=
  if s.size = 1 ∧ fig (bt s 0) then bt s 0 - 48
  else if s.size = 2 ∧ fig (bt s 0) ∧ fig (bt s 1) then 10 * (bt s 0 - 48) + bt s 1 - 48
  else cutLen s
theorem specBindNum_is (s : ByteArray) (hs : s.size ≤ 140737488351232) (k : Nat) (hk : s.size + 4 < k) : spec_BindNum.f k s = some (bindR s) := by
  unfold spec_BindNum.f bindR
  rw [l01In_is, Option.bind_some]
  by_cases h : 1 ≤ (s.size : Int) ∧ (s.size : Int) ≤ 2
  · rw [if_pos (by simpa using h)]
    obtain ⟨k, rfl⟩ : ∃ m, k = m + 1 + 1 + 1 := ⟨k - 3, by omega⟩
    have e0 := specBind_step s hs (k + 1 + 1) 0 0 (by omega) (by omega) (by omega)
    rw [show ((0 : Nat) : Int) = 0 from rfl] at e0
    rw [e0]
    by_cases f0 : fig (bt s 0) = true
    · have hf0 : 48 ≤ bt s 0 ∧ bt s 0 ≤ 57 := by simpa [fig] using f0
      rw [if_pos f0]
      by_cases h1 : s.size = 1
      · rw [if_pos ⟨h1, f0⟩, spec_BindNum.l0, if_neg (by omega), if_pos rfl]; congr 1; omega
      · have e1 := specBind_step s hs (k + 1) 1 (10 * 0 + bt s 0 - 48) (by omega) (by omega) (by omega)
        rw [show ((1 : Nat) : Int) = 1 from rfl] at e1
        rw [show ((0 + 1 : Nat) : Int) = 1 from rfl, e1, if_neg (show ¬ (s.size = 1 ∧ fig (bt s 0) = true) from fun h2 => h1 h2.1)]
        by_cases f1 : fig (bt s 1) = true
        · rw [if_pos f1, if_pos ⟨by omega, f0, f1⟩, spec_BindNum.l0, if_neg (by omega), if_pos rfl]; congr 1; omega
        · rw [if_neg f1, if_neg (show ¬ (s.size = 2 ∧ fig (bt s 0) = true ∧ fig (bt s 1) = true) from fun h2 => f1 h2.2.2)]
    · rw [if_neg f0, if_neg (show ¬ (s.size = 1 ∧ fig (bt s 0) = true) from fun h2 => f0 h2.2), if_neg (show ¬ (s.size = 2 ∧ fig (bt s 0) = true ∧ fig (bt s 1) = true) from fun h2 => f0 h2.2.1)]
  · rw [if_neg (by simpa using h), if_neg (show ¬ (s.size = 1 ∧ fig (bt s 0) = true) from fun h2 => h (by omega)), if_neg (show ¬ (s.size = 2 ∧ fig (bt s 0) = true ∧ fig (bt s 1) = true) from fun h2 => h (by omega))]
    unfold cutLen; split <;> rfl
theorem implBindNum_is (s : ByteArray) (hs : s.size ≤ 140737488351232) (k : Nat) (hk : s.size + 4 < k) : impl_BindNum.f k s = some (bindR s) := by
  unfold impl_BindNum.f bindR
  rw [within_is, Option.bind_some]
  by_cases h : 1 ≤ (s.size : Int) ∧ (s.size : Int) ≤ 2
  · rw [show decide (1 ≤ (s.size : Int) ∧ (s.size : Int) ≤ 2) = true from by simpa using h]
    obtain ⟨k, rfl⟩ : ∃ m, k = m + 1 + 1 + 1 := ⟨k - 3, by omega⟩
    have e0 := implBind_step s hs (k + 1 + 1) 0 0 (by omega) (by omega) (by omega)
    rw [show ((0 : Nat) : Int) = 0 from rfl] at e0
    rw [e0]
    by_cases f0 : fig (bt s 0) = true
    · have hf0 : 48 ≤ bt s 0 ∧ bt s 0 ≤ 57 := by simpa [fig] using f0
      rw [if_pos f0]
      by_cases h1 : s.size = 1
      · rw [if_pos ⟨h1, f0⟩, impl_BindNum.l0, if_neg (by omega), if_pos rfl]; congr 1; omega
      · have e1 := implBind_step s hs (k + 1) 1 (10 * 0 + bt s 0 - 48) (by omega) (by omega) (by omega)
        rw [show ((1 : Nat) : Int) = 1 from rfl] at e1
        rw [show ((0 + 1 : Nat) : Int) = 1 from rfl, e1, if_neg (show ¬ (s.size = 1 ∧ fig (bt s 0) = true) from fun h2 => h1 h2.1)]
        by_cases f1 : fig (bt s 1) = true
        · rw [if_pos f1, if_pos ⟨by omega, f0, f1⟩, impl_BindNum.l0, if_neg (by omega), if_pos rfl]; congr 1; omega
        · rw [if_neg f1, if_neg (show ¬ (s.size = 2 ∧ fig (bt s 0) = true ∧ fig (bt s 1) = true) from fun h2 => f1 h2.2.2)]
    · rw [if_neg f0, if_neg (show ¬ (s.size = 1 ∧ fig (bt s 0) = true) from fun h2 => f0 h2.2), if_neg (show ¬ (s.size = 2 ∧ fig (bt s 0) = true ∧ fig (bt s 1) = true) from fun h2 => f0 h2.2.1)]
  · rw [show decide (1 ≤ (s.size : Int) ∧ (s.size : Int) ≤ 2) = false from by simpa using h, if_neg (show ¬ (s.size = 1 ∧ fig (bt s 0) = true) from fun h2 => h (by omega)), if_neg (show ¬ (s.size = 2 ∧ fig (bt s 0) = true ∧ fig (bt s 1) = true) from fun h2 => h (by omega))]
    exact implBind_false s hs s.size k 0 0 (by omega) (by omega)

/-! ### FnExactBindNum -/
theorem FnExactBindNum : laws_FnExactBindNum.Pure := by
  intro s hs
  refine ⟨s.size + 5, ?_⟩
  unfold laws_FnExactBindNum.f
  by_cases h : (s.size : Int) > 1048576
  · rw [if_pos h]
  · rw [if_neg h, specBindNum_is s hs _ (by omega), implBindNum_is s hs _ (by omega)]; simp

end Go.Proofs.Ytlgdkpoaldaabaa.Pure
