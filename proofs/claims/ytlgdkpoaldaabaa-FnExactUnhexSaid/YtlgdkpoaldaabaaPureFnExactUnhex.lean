/- FnExactUnhex without Go: at every string the program's Unhex and the reference's answer the same. -/
import Derived.Test.YtlgdkpoaldaabaaMFnExactUnhexx1
set_option linter.unusedVariables false
set_option linter.unusedSimpArgs false
set_option maxHeartbeats 400000
namespace Go.Proofs.Ytlgdkpoaldaabaa.Pure
open Go.RowKit Go.Proofs.Ytlgdkpoaldaabaa.MFnExactUnhex Go.Proofs.YtlgdkpoaldaabaaW.PrintWords Go.Proofs.YtlgdkpoaldaabaaW.PrintLast
/-! ### base -/
theorem w64 {n : Int} (h : -9223372036854775808 ≤ n) (h' : n ≤ 9223372036854775807) : wrap64 n = n := by unfold wrap64; omega
theorem w64_succ {i m : Nat} (h : i < m) (hm : m ≤ 140737488351232) : wrap64 ((i : Int) + 1) = ((i + 1 : Nat) : Int) := by
  rw [w64 (by omega) (by omega)]; omega
theorem w64_bt (s : ByteArray) (i : Int) : wrap64 (bt s i) = bt s i := by
  have := bt_range s i
  exact w64 (by omega) (by omega)
/-- A string's bytes as numbers. -/
def bs (s : ByteArray) : List Int := s.data.toList.map fun b => (b.toNat : Int)
theorem bs_length (s : ByteArray) : (bs s).length = s.size := by simp [bs]
theorem bs_get (s : ByteArray) (i : Nat) (h : i < s.size) : (bs s)[i]? = some (bt s i) := by
  have h2 : i < s.data.toList.length := by simpa using h
  simp only [bs, List.getElem?_map, List.getElem?_eq_getElem h2, Option.map_some]
  unfold bt
  rw [dif_pos (by simpa using h)]
  rfl
theorem bs_drop (s : ByteArray) (i : Nat) (h : i < s.size) : (bs s).drop i = bt s i :: (bs s).drop (i + 1) := by
  have h2 : i < (bs s).length := by rw [bs_length]; exact h
  rw [List.drop_eq_getElem_cons h2]
  congr 1
  have := bs_get s i h
  rw [List.getElem?_eq_getElem h2] at this
  exact Option.some.inj this
theorem bs_drop_nil (s : ByteArray) (i : Nat) (h : s.size ≤ i) : (bs s).drop i = [] := List.drop_eq_nil_of_le (by rw [bs_length]; exact h)
theorem bs_range {s : ByteArray} {c : Int} (h : c ∈ bs s) : 0 ≤ c ∧ c ≤ 255 := by
  simp only [bs, List.mem_map] at h
  obtain ⟨b, _, rfl⟩ := h
  have := b.toNat_lt
  omega
theorem bs_inj {s t : ByteArray} (h : bs s = bs t) : s = t := by
  have hd : s.data.toList = t.data.toList := by
    refine List.map_inj_right (f := fun b : UInt8 => (b.toNat : Int)) (fun a b hab => ?_) |>.1 h
    have hab2 : (a.toNat : Int) = b.toNat := hab
    exact UInt8.toNat_inj.1 (by omega)
  cases s; cases t
  simp only [ByteArray.mk.injEq]
  exact Array.toList_inj.1 hd
theorem bs_str {xs : List Int} (h : ∀ x ∈ xs, 0 ≤ x ∧ x ≤ 255) : bs (strOfNums xs) = xs := by
  unfold bs strOfNums
  simp only [List.map_map]
  conv => rhs; rw [← List.map_id xs]
  refine List.map_congr_left fun x hx => ?_
  have := h x hx
  simp only [Function.comp, id, UInt8.toNat_ofNat']
  omega
theorem str_bs (s : ByteArray) : strOfNums (bs s) = s := bs_inj (bs_str fun _ hx => bs_range hx)
theorem str_size (xs : List Int) : (strOfNums xs).size = xs.length := by
  show ((xs.map fun n => UInt8.ofNat n.toNat).toArray).size = xs.length
  simp
theorem bs_append (s t : ByteArray) : bs (s ++ t) = bs s ++ bs t := by
  simp [bs]
theorem bs_empty : bs (⟨#[]⟩ : ByteArray) = [] := rfl
theorem bt_str {xs : List Int} (h : ∀ x ∈ xs, 0 ≤ x ∧ x ≤ 255) (i : Nat) (hi : i < xs.length) : bt (strOfNums xs) i = rd xs i := by
  have h1 := bs_get (strOfNums xs) i (by rw [str_size]; exact hi)
  rw [bs_str h] at h1
  unfold rd
  rw [List.getD_eq_getElem?_getD, Int.toNat_natCast, h1]
  rfl
theorem bt_bs (s : ByteArray) (i : Int) : bt s i = rd (bs s) i := by
  unfold rd
  rw [List.getD_eq_getElem?_getD]
  by_cases h : i.toNat < s.size
  · have := bs_get s i.toNat h
    rw [this]
    unfold bt
    simp only [Int.toNat_natCast]
    rw [dif_pos h]
    rfl
  · rw [List.getElem?_eq_none (by rw [bs_length]; omega)]
    unfold bt
    rw [dif_neg h]
    rfl
theorem toList_eq {s t : ByteArray} : s.toList = t.toList ↔ s = t := by
  rw [ByteArray.toList_eq, ByteArray.toList_eq]
  constructor
  · intro h; cases s; cases t; simpa [Array.toList_inj] using h
  · rintro rfl; rfl
theorem tdiv_e {n : Int} (h : 0 ≤ n) (m : Int) : Int.tdiv n m = n / m := Int.tdiv_eq_ediv_of_nonneg h
theorem tmod_e {n : Int} (h : 0 ≤ n) (m : Int) : Int.tmod n m = n % m := Int.tmod_eq_emod_of_nonneg h

/-! ### FnExactUnhex -/
/-- What a figure is worth, or -1. -/
def figV (c : Int) : Int := if 48 ≤ c ∧ c ≤ 57 then c - 48 else if 97 ≤ c ∧ c ≤ 102 then c - 87 else -1
theorem specValue_is (c : Int) (h0 : 0 ≤ c) (h1 : c ≤ 255) (k : Nat) (hk : 0 < k) : spec_l01Value.f k c = some (figV c) := by
  obtain ⟨k, rfl⟩ : ∃ k', k = k' + 1 := ⟨k - 1, by omega⟩
  unfold spec_l01Value.f figV
  by_cases a : c ≥ 48
  · rw [if_pos a, spec_l01Value.j0]
    by_cases b : c ≤ 57
    · rw [if_pos (by simpa using b), if_pos ⟨a, b⟩, w64 (n := c) (by omega) (by omega), w64 (by omega) (by omega)]
    · rw [if_neg (by simpa using b), if_neg (show ¬ (48 ≤ c ∧ c ≤ 57) by omega)]
      by_cases c97 : c ≥ 97
      · rw [if_pos c97]
        by_cases c102 : c ≤ 102
        · rw [if_pos c102, if_pos ⟨c97, c102⟩, w64 (n := c) (by omega) (by omega), w64 (n := c - 97) (by omega) (by omega), w64 (by omega) (by omega)]
          congr 1; omega
        · rw [if_neg c102, if_neg (show ¬ (97 ≤ c ∧ c ≤ 102) by omega)]
      · rw [if_neg c97, if_neg (show ¬ (97 ≤ c ∧ c ≤ 102) by omega)]
  · rw [if_neg a, spec_l01Value.j0, if_neg (by simp), if_neg (show ¬ c ≥ 97 by omega), if_neg (show ¬ (48 ≤ c ∧ c ≤ 57) by omega), if_neg (show ¬ (97 ≤ c ∧ c ≤ 102) by omega)]
theorem indexByte_none (u : UInt8) (l : List UInt8) (h : ∀ b ∈ l, b ≠ u) : Go.Lib.indexByte l u = -1 := by
  induction l with
  | nil => rfl
  | cons b l ih =>
    have e := ih fun x hx => h x (List.mem_cons_of_mem _ hx)
    rw [Go.Lib.indexByte, e, if_neg (by simpa using h b (by simp))]
    simp
theorem digits_range : ∀ b ∈ ([48, 49, 50, 51, 52, 53, 54, 55, 56, 57, 97, 98, 99, 100, 101, 102] : List UInt8), (48 ≤ b.toNat ∧ b.toNat ≤ 57) ∨ (97 ≤ b.toNat ∧ b.toNat ≤ 102) := by decide
theorem implValue_is (c : Int) (h0 : 0 ≤ c) (h1 : c ≤ 255) : strings_IndexByte.f (⟨#[48, 49, 50, 51, 52, 53, 54, 55, 56, 57, 97, 98, 99, 100, 101, 102]⟩ : ByteArray) c = some (figV c) := by
  unfold strings_IndexByte.f
  by_cases a : (48 ≤ c ∧ c ≤ 57) ∨ (97 ≤ c ∧ c ≤ 102)
  · have h : c = 48 ∨ c = 49 ∨ c = 50 ∨ c = 51 ∨ c = 52 ∨ c = 53 ∨ c = 54 ∨ c = 55 ∨ c = 56 ∨ c = 57 ∨ c = 97 ∨ c = 98 ∨ c = 99 ∨ c = 100 ∨ c = 101 ∨ c = 102 := by omega
    rcases h with rfl | rfl | rfl | rfl | rfl | rfl | rfl | rfl | rfl | rfl | rfl | rfl | rfl | rfl | rfl | rfl <;> decide
  · have hn := indexByte_none c.toNat.toUInt8 [48, 49, 50, 51, 52, 53, 54, 55, 56, 57, 97, 98, 99, 100, 101, 102] (fun b hb e => by
      have := digits_range b hb
      rw [e] at this
      have e2 : c.toNat.toUInt8.toNat = c.toNat := by simp; omega
      omega)
    show some (Go.Lib.indexByte [48, 49, 50, 51, 52, 53, 54, 55, 56, 57, 97, 98, 99, 100, 101, 102] c.toNat.toUInt8) = _
    rw [hn]; unfold figV
    rw [if_neg (fun h => a (Or.inl h)), if_neg (fun h => a (Or.inr h))]
theorem unhex_l0 (s : ByteArray) (hs : s.size ≤ 40000) (he : s.size % 2 = 0) (d : Nat) : ∀ (k i : Nat) (acc : List Int), s.size - i ≤ d → d + 1 < k → i % 2 = 0 → acc.length ≤ i →
    ∃ r, spec_Unhex.l0 k s acc (i : Int) = some r ∧ impl_Unhex.l0 k s acc (i : Int) = some r := by
  induction d with
  | zero =>
    intro k i acc hd hk hi ha
    obtain ⟨k, rfl⟩ : ∃ k', k = k' + 1 := ⟨k - 1, by omega⟩
    exact ⟨_, by rw [spec_Unhex.l0, if_neg (by omega)], by rw [impl_Unhex.l0, if_neg (by omega)]⟩
  | succ d ih =>
    intro k i acc hd hk hi ha
    obtain ⟨k, rfl⟩ : ∃ k', k = k' + 1 := ⟨k - 1, by omega⟩
    by_cases h : i < s.size
    · have hr := bt_range s (i : Int)
      have hr2 := bt_range s ((i : Int) + 1)
      rw [spec_Unhex.l0, impl_Unhex.l0, if_pos (by omega), if_pos (by omega), if_pos (by omega), if_pos (by omega), w64 (n := (i : Int) + 1) (by omega) (by omega), specValue_is _ hr.1 hr.2 k (by omega), implValue_is _ hr.1 hr.2, Option.bind_some, Option.bind_some,
        if_pos (by omega), if_pos (by omega), if_pos (by omega), if_pos (by omega), specValue_is _ hr2.1 hr2.2 k (by omega), implValue_is _ hr2.1 hr2.2, Option.bind_some, Option.bind_some]
      by_cases a : figV (bt s (i : Int)) < 0
      · exact ⟨_, by rw [if_pos a], by rw [if_pos a]⟩
      · by_cases b : figV (bt s ((i : Int) + 1)) < 0
        · exact ⟨_, by rw [if_neg a, if_pos b], by rw [if_neg a, if_pos b]⟩
        · have w2 : wrap64 ((i : Int) + 2) = ((i + 2 : Nat) : Int) := by rw [w64 (by omega) (by omega)]; omega
          rw [if_neg a, if_neg b, if_neg a, if_neg b, if_pos (by omega), if_pos (by omega), w2]
          exact ih k (i + 2) _ (by omega) (by omega) (by omega) (by simp only [List.length_append, List.length_cons, List.length_nil]; omega)
    · exact ⟨_, by rw [spec_Unhex.l0, if_neg (by omega)], by rw [impl_Unhex.l0, if_neg (by omega)]⟩
theorem FnExactUnhex : laws_FnExactUnhex.Pure := by
  intro s hs
  refine ⟨s.size + 3, ?_⟩
  unfold laws_FnExactUnhex.f
  by_cases h : (s.size : Int) > 1048576
  · rw [if_pos h]
  · rw [if_neg h]
    obtain ⟨r, e1, e2⟩ : ∃ r, spec_Unhex.f (s.size + 3) s = some r ∧ impl_Unhex.f (s.size + 3) s = some r := by
      unfold spec_Unhex.f impl_Unhex.f
      by_cases h2 : (s.size : Int) > 40000
      · rw [if_pos h2, spec_Unhex.j0, if_pos rfl]
        refine ⟨_, rfl, ?_⟩
        by_cases h3 : (s.size : Int) % 2 = 0
        · rw [if_pos h3, impl_Unhex.j0, if_pos (by simpa using h2)]
        · rw [if_neg h3, impl_Unhex.j0, if_pos rfl]
      · rw [if_neg h2, spec_Unhex.j0]
        by_cases h3 : (s.size : Int) % 2 = 0
        · rw [if_pos h3, impl_Unhex.j0, if_neg (by simpa using h3), if_neg (by simpa using h2)]
          exact unhex_l0 s (by omega) (by omega) s.size (s.size + 2) 0 [] (by omega) (by omega) rfl (by simp)
        · rw [if_neg h3, impl_Unhex.j0, if_pos (by simpa using h3), if_pos rfl]
          exact ⟨_, rfl, rfl⟩
    rw [e1, e2, Option.bind_some, Option.bind_some, if_pos rfl, if_neg (by simp)]

end Go.Proofs.Ytlgdkpoaldaabaa.Pure
