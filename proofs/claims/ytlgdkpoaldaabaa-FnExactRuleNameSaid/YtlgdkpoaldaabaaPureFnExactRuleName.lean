/- FnExactRuleName without Go: at every string the program's RuleName and the reference's answer the same. -/
import Derived.Test.YtlgdkpoaldaabaaPFnExactRuleNamex2
set_option linter.unusedVariables false
set_option linter.unusedSimpArgs false
set_option maxHeartbeats 400000
namespace Go.Proofs.Ytlgdkpoaldaabaa.Pure
open Go.RowKit Go.Proofs.Ytlgdkpoaldaabaa.PFnExactRuleName Go.Proofs.YtlgdkpoaldaabaaW.PrintWords Go.Proofs.YtlgdkpoaldaabaaW.PrintLast
/-! ### base -/
theorem w64 {n : Int} (h : -9223372036854775808 ≤ n) (h' : n ≤ 9223372036854775807) : wrap64 n = n := by unfold wrap64; omega
theorem w64_succ {i m : Nat} (h : i < m) (hm : m ≤ 140737488351232) : wrap64 ((i : Int) + 1) = ((i + 1 : Nat) : Int) := by
  rw [w64 (by omega) (by omega)]; omega
theorem w64_bt (s : ByteArray) (i : Int) : wrap64 (bt s i) = bt s i := by
  have := bt_range s i
  exact w64 (by omega) (by omega)
/-- A string's bytes as numbers. -/
def bs (s : ByteArray) : List Int := s.data.toList.map fun b => (b.toNat : Int)
theorem bs_length (s : ByteArray) : (bs s).length = s.size := by simp [bs]
theorem bs_get (s : ByteArray) (i : Nat) (h : i < s.size) : (bs s)[i]? = some (bt s i) := by
  have h2 : i < s.data.toList.length := by simpa using h
  simp only [bs, List.getElem?_map, List.getElem?_eq_getElem h2, Option.map_some]
  unfold bt
  rw [dif_pos (by simpa using h)]
  rfl
theorem bs_drop (s : ByteArray) (i : Nat) (h : i < s.size) : (bs s).drop i = bt s i :: (bs s).drop (i + 1) := by
  have h2 : i < (bs s).length := by rw [bs_length]; exact h
  rw [List.drop_eq_getElem_cons h2]
  congr 1
  have := bs_get s i h
  rw [List.getElem?_eq_getElem h2] at this
  exact Option.some.inj this
theorem bs_drop_nil (s : ByteArray) (i : Nat) (h : s.size ≤ i) : (bs s).drop i = [] := List.drop_eq_nil_of_le (by rw [bs_length]; exact h)
theorem bs_range {s : ByteArray} {c : Int} (h : c ∈ bs s) : 0 ≤ c ∧ c ≤ 255 := by
  simp only [bs, List.mem_map] at h
  obtain ⟨b, _, rfl⟩ := h
  have := b.toNat_lt
  omega
theorem bs_inj {s t : ByteArray} (h : bs s = bs t) : s = t := by
  have hd : s.data.toList = t.data.toList := by
    refine List.map_inj_right (f := fun b : UInt8 => (b.toNat : Int)) (fun a b hab => ?_) |>.1 h
    have hab2 : (a.toNat : Int) = b.toNat := hab
    exact UInt8.toNat_inj.1 (by omega)
  cases s; cases t
  simp only [ByteArray.mk.injEq]
  exact Array.toList_inj.1 hd
theorem bs_str {xs : List Int} (h : ∀ x ∈ xs, 0 ≤ x ∧ x ≤ 255) : bs (strOfNums xs) = xs := by
  unfold bs strOfNums
  simp only [List.map_map]
  conv => rhs; rw [← List.map_id xs]
  refine List.map_congr_left fun x hx => ?_
  have := h x hx
  simp only [Function.comp, id, UInt8.toNat_ofNat']
  omega
theorem str_bs (s : ByteArray) : strOfNums (bs s) = s := bs_inj (bs_str fun _ hx => bs_range hx)
theorem str_size (xs : List Int) : (strOfNums xs).size = xs.length := by
  show ((xs.map fun n => UInt8.ofNat n.toNat).toArray).size = xs.length
  simp
theorem bs_append (s t : ByteArray) : bs (s ++ t) = bs s ++ bs t := by
  simp [bs]
theorem bs_empty : bs (⟨#[]⟩ : ByteArray) = [] := rfl
theorem bt_str {xs : List Int} (h : ∀ x ∈ xs, 0 ≤ x ∧ x ≤ 255) (i : Nat) (hi : i < xs.length) : bt (strOfNums xs) i = rd xs i := by
  have h1 := bs_get (strOfNums xs) i (by rw [str_size]; exact hi)
  rw [bs_str h] at h1
  unfold rd
  rw [List.getD_eq_getElem?_getD, Int.toNat_natCast, h1]
  rfl
theorem bt_bs (s : ByteArray) (i : Int) : bt s i = rd (bs s) i := by
  unfold rd
  rw [List.getD_eq_getElem?_getD]
  by_cases h : i.toNat < s.size
  · have := bs_get s i.toNat h
    rw [this]
    unfold bt
    simp only [Int.toNat_natCast]
    rw [dif_pos h]
    rfl
  · rw [List.getElem?_eq_none (by rw [bs_length]; omega)]
    unfold bt
    rw [dif_neg h]
    rfl
theorem toList_eq {s t : ByteArray} : s.toList = t.toList ↔ s = t := by
  rw [ByteArray.toList_eq, ByteArray.toList_eq]
  constructor
  · intro h; cases s; cases t; simpa [Array.toList_inj] using h
  · rintro rfl; rfl
theorem tdiv_e {n : Int} (h : 0 ≤ n) (m : Int) : Int.tdiv n m = n / m := Int.tdiv_eq_ediv_of_nonneg h
theorem tmod_e {n : Int} (h : 0 ≤ n) (m : Int) : Int.tmod n m = n % m := Int.tmod_eq_emod_of_nonneg h

/-! ### ruleNameB -/
def letter (c : Int) : Bool := decide ((97 ≤ c ∧ c ≤ 122) ∨ (65 ≤ c ∧ c ≤ 90))
def figure (c : Int) : Bool := decide (48 ≤ c ∧ c ≤ 57)
def restOk (first : Bool) : List Int → Bool
  | [] => true
  | c :: r => (letter c || (!first && figure c)) && r.all fun c => letter c || figure c
theorem restOk_false (l : List Int) : restOk false l = l.all fun c => letter c || figure c := by cases l <;> simp [restOk]
/-- 1 to 6 letters and figures, a letter first. -/
def ruleNameB (s : ByteArray) : Bool := restOk true (bs s) && decide (1 ≤ (s.size : Int) ∧ (s.size : Int) ≤ 6)

/-! ### l01In -/
theorem l01In_is (a b c : Int) : spec_l01In.f a b c = some (decide (b ≤ a ∧ a ≤ c)) := by
  unfold spec_l01In.f
  by_cases h : a ≥ b
  · rw [if_pos h]; simp [show b ≤ a from h]
  · rw [if_neg h]; simp [show ¬ b ≤ a from h]

/-! ### specRuleName -/
theorem specRuleName_l0 (s : ByteArray) (hs : s.size ≤ 140737488351232) (d : Nat) : ∀ (k i : Nat), s.size - i ≤ d → d < k →
    spec_RuleName.l0 k s (i : Int) = some (restOk (decide (i = 0)) ((bs s).drop i) && decide (1 ≤ (s.size : Int) ∧ (s.size : Int) ≤ 6)) := by
  induction d with
  | zero =>
    intro k i hd hk
    obtain ⟨k, rfl⟩ : ∃ m, k = m + 1 := ⟨k - 1, by omega⟩
    simp only [spec_RuleName.l0]
    rw [if_neg (by omega), l01In_is, bs_drop_nil s i (by omega)]; simp [restOk]
  | succ d ih =>
    intro k i hd hk
    obtain ⟨k, rfl⟩ : ∃ m, k = m + 1 := ⟨k - 1, by omega⟩
    by_cases hi : i < s.size
    · have e := ih k (i + 1) (by omega) (by omega)
      rw [show decide (i + 1 = 0) = false from by simp, restOk_false] at e
      have hb := bt_range s i
      simp only [spec_RuleName.l0]
      rw [if_pos (by omega), if_pos (by omega), w64_succ hi hs, e, bs_drop s i hi]
      simp only [restOk]
      generalize bt s (i : Int) = c at *
      by_cases h1 : letter c = true
      · rw [h1]
        simp only [letter, decide_eq_true_eq] at h1
        by_cases h2 : c ≥ 97
        · rw [if_pos h2, if_pos (by omega)]; simp
        · rw [if_neg h2, if_pos (by omega), if_pos (by omega)]; simp
      · have h1' : letter c = false := by simpa using h1
        rw [h1']
        have h1 : ¬ ((97 ≤ c ∧ c ≤ 122) ∨ (65 ≤ c ∧ c ≤ 90)) := by simpa [letter] using h1'
        have key : (if (i : Int) = 0 then some false else if c < 48 then some false else if c > 57 then some false else some ((List.drop (i + 1) (bs s)).all (fun c => letter c || figure c) && decide (1 ≤ (s.size : Int) ∧ (s.size : Int) ≤ 6)))
            = some ((false || !decide (i = 0) && figure c) && ((List.drop (i + 1) (bs s)).all fun c => letter c || figure c) && decide (1 ≤ (s.size : Int) ∧ (s.size : Int) ≤ 6)) := by
          by_cases h0 : i = 0
          · subst h0; simp
          · rw [if_neg (by omega)]
            by_cases h3 : 48 ≤ c ∧ c ≤ 57
            · rw [if_neg (by omega), if_neg (by omega), show figure c = true from by simpa [figure] using h3]; simp [h0]
            · rw [show figure c = false from by simpa [figure] using h3]
              by_cases h4 : c < 48
              · rw [if_pos h4]; simp
              · rw [if_neg h4, if_pos (by omega)]; simp
        rw [← key]
        by_cases h2 : c ≥ 97
        · rw [if_pos h2, if_neg (by omega), if_pos (by omega), if_neg (by omega)]
        · rw [if_neg h2]
          by_cases h5 : c ≥ 65
          · rw [if_pos h5, if_neg (by omega)]
          · rw [if_neg h5]
    · simp only [spec_RuleName.l0]
      rw [if_neg (by omega), l01In_is, bs_drop_nil s i (by omega)]; simp [restOk]
theorem specRuleName_is (s : ByteArray) (hs : s.size ≤ 140737488351232) (k : Nat) (hk : s.size < k) : spec_RuleName.f k s = some (ruleNameB s) := by
  unfold spec_RuleName.f
  exact specRuleName_l0 s hs s.size k 0 (by omega) hk

/-! ### within -/
theorem within_is (a b c : Int) : impl_within.f a b c = some (decide (b ≤ a ∧ a ≤ c)) := by
  unfold impl_within.f
  by_cases h : a ≥ b
  · rw [if_pos h]; simp [show b ≤ a from h]
  · rw [if_neg h]; simp [show ¬ b ≤ a from h]

/-! ### isSmall -/
theorem isSmall_is (s : ByteArray) (i : Int) : impl_isSmall.f (bt s i) = some (decide (97 ≤ bt s i ∧ bt s i ≤ 122)) := by
  unfold impl_isSmall.f
  rw [w64_bt, within_is]; rfl

/-! ### isLetter -/
theorem isLetter_is (s : ByteArray) (i : Int) : impl_isLetter.f (bt s i) = some (decide ((97 ≤ bt s i ∧ bt s i ≤ 122) ∨ (65 ≤ bt s i ∧ bt s i ≤ 90))) := by
  unfold impl_isLetter.f
  rw [isSmall_is, w64_bt, within_is]
  simp only [Option.bind_some]
  by_cases h : 97 ≤ bt s i ∧ bt s i ≤ 122 <;> simp [h]

/-! ### isFigure -/
theorem isFigure_is (s : ByteArray) (i : Int) : impl_isFigure.f (bt s i) = some (decide (48 ≤ bt s i ∧ bt s i ≤ 57)) := by
  unfold impl_isFigure.f
  rw [w64_bt, within_is]; rfl

/-! ### implRuleName -/
theorem implRuleName_l0 (s : ByteArray) (hs : s.size ≤ 140737488351232) (d : Nat) : ∀ (k i : Nat), s.size - i ≤ d → d < k →
    impl_RuleName.l0 k s (s.size : Int) (i : Int) = some (restOk (decide (i = 0)) ((bs s).drop i) && decide (1 ≤ (s.size : Int) ∧ (s.size : Int) ≤ 6)) := by
  induction d with
  | zero =>
    intro k i hd hk
    obtain ⟨k, rfl⟩ : ∃ m, k = m + 1 := ⟨k - 1, by omega⟩
    simp only [impl_RuleName.l0]
    rw [if_neg (by omega), within_is, bs_drop_nil s i (by omega)]; simp [restOk]
  | succ d ih =>
    intro k i hd hk
    obtain ⟨k, rfl⟩ : ∃ m, k = m + 1 := ⟨k - 1, by omega⟩
    by_cases hi : i < s.size
    · have e := ih k (i + 1) (by omega) (by omega)
      rw [show decide (i + 1 = 0) = false from by simp, restOk_false] at e
      simp only [impl_RuleName.l0]
      rw [if_pos (by omega), if_pos (by omega), if_pos (by omega), isLetter_is, isFigure_is, Option.bind_some, Option.bind_some, w64_succ hi hs, e, bs_drop s i hi]
      simp only [restOk]
      generalize bt s (i : Int) = c at *
      rw [show decide (97 ≤ c ∧ c ≤ 122 ∨ 65 ≤ c ∧ c ≤ 90) = letter c from rfl, show decide (48 ≤ c ∧ c ≤ 57) = figure c from rfl]
      by_cases h1 : letter c = true
      · rw [if_pos h1, h1]; simp
      · rw [if_neg h1, show letter c = false from by simpa using h1]
        by_cases h0 : i = 0
        · subst h0; simp
        · rw [if_neg (by omega)]
          by_cases h2 : figure c = true
          · rw [if_pos h2, h2]; simp [h0]
          · rw [if_neg h2, show figure c = false from by simpa using h2]; simp
    · simp only [impl_RuleName.l0]
      rw [if_neg (by omega), within_is, bs_drop_nil s i (by omega)]; simp [restOk]
theorem implRuleName_is (s : ByteArray) (hs : s.size ≤ 140737488351232) (k : Nat) (hk : s.size < k) : impl_RuleName.f k s = some (ruleNameB s) := by
  unfold impl_RuleName.f
  exact implRuleName_l0 s hs s.size k 0 (by omega) hk

/-! ### FnExactRuleName -/
theorem FnExactRuleName : laws_FnExactRuleName.Pure := by
  intro s hs
  refine ⟨s.size + 1, ?_⟩
  unfold laws_FnExactRuleName.f
  by_cases h : (s.size : Int) > 1048576
  · rw [if_pos h]
  · rw [if_neg h, specRuleName_is s hs _ (by omega), implRuleName_is s hs _ (by omega)]; simp

end Go.Proofs.Ytlgdkpoaldaabaa.Pure
