/- FnExactHex without Go: at every string the program's Hex and the reference's answer the same. -/
import Derived.Test.YtlgdkpoaldaabaaMFnExactHexx1
set_option linter.unusedVariables false
set_option linter.unusedSimpArgs false
set_option maxHeartbeats 400000
namespace Go.Proofs.Ytlgdkpoaldaabaa.Pure
open Go.RowKit Go.Proofs.Ytlgdkpoaldaabaa.MFnExactHex Go.Proofs.YtlgdkpoaldaabaaW.PrintWords Go.Proofs.YtlgdkpoaldaabaaW.PrintLast
/-! ### base -/
theorem w64 {n : Int} (h : -9223372036854775808 ≤ n) (h' : n ≤ 9223372036854775807) : wrap64 n = n := by unfold wrap64; omega
theorem w64_succ {i m : Nat} (h : i < m) (hm : m ≤ 140737488351232) : wrap64 ((i : Int) + 1) = ((i + 1 : Nat) : Int) := by
  rw [w64 (by omega) (by omega)]; omega
theorem w64_bt (s : ByteArray) (i : Int) : wrap64 (bt s i) = bt s i := by
  have := bt_range s i
  exact w64 (by omega) (by omega)
/-- A string's bytes as numbers. -/
def bs (s : ByteArray) : List Int := s.data.toList.map fun b => (b.toNat : Int)
theorem bs_length (s : ByteArray) : (bs s).length = s.size := by simp [bs]
theorem bs_get (s : ByteArray) (i : Nat) (h : i < s.size) : (bs s)[i]? = some (bt s i) := by
  have h2 : i < s.data.toList.length := by simpa using h
  simp only [bs, List.getElem?_map, List.getElem?_eq_getElem h2, Option.map_some]
  unfold bt
  rw [dif_pos (by simpa using h)]
  rfl
theorem bs_drop (s : ByteArray) (i : Nat) (h : i < s.size) : (bs s).drop i = bt s i :: (bs s).drop (i + 1) := by
  have h2 : i < (bs s).length := by rw [bs_length]; exact h
  rw [List.drop_eq_getElem_cons h2]
  congr 1
  have := bs_get s i h
  rw [List.getElem?_eq_getElem h2] at this
  exact Option.some.inj this
theorem bs_drop_nil (s : ByteArray) (i : Nat) (h : s.size ≤ i) : (bs s).drop i = [] := List.drop_eq_nil_of_le (by rw [bs_length]; exact h)
theorem bs_range {s : ByteArray} {c : Int} (h : c ∈ bs s) : 0 ≤ c ∧ c ≤ 255 := by
  simp only [bs, List.mem_map] at h
  obtain ⟨b, _, rfl⟩ := h
  have := b.toNat_lt
  omega
theorem bs_inj {s t : ByteArray} (h : bs s = bs t) : s = t := by
  have hd : s.data.toList = t.data.toList := by
    refine List.map_inj_right (f := fun b : UInt8 => (b.toNat : Int)) (fun a b hab => ?_) |>.1 h
    have hab2 : (a.toNat : Int) = b.toNat := hab
    exact UInt8.toNat_inj.1 (by omega)
  cases s; cases t
  simp only [ByteArray.mk.injEq]
  exact Array.toList_inj.1 hd
theorem bs_str {xs : List Int} (h : ∀ x ∈ xs, 0 ≤ x ∧ x ≤ 255) : bs (strOfNums xs) = xs := by
  unfold bs strOfNums
  simp only [List.map_map]
  conv => rhs; rw [← List.map_id xs]
  refine List.map_congr_left fun x hx => ?_
  have := h x hx
  simp only [Function.comp, id, UInt8.toNat_ofNat']
  omega
theorem str_bs (s : ByteArray) : strOfNums (bs s) = s := bs_inj (bs_str fun _ hx => bs_range hx)
theorem str_size (xs : List Int) : (strOfNums xs).size = xs.length := by
  show ((xs.map fun n => UInt8.ofNat n.toNat).toArray).size = xs.length
  simp
theorem bs_append (s t : ByteArray) : bs (s ++ t) = bs s ++ bs t := by
  simp [bs]
theorem bs_empty : bs (⟨#[]⟩ : ByteArray) = [] := rfl
theorem bt_str {xs : List Int} (h : ∀ x ∈ xs, 0 ≤ x ∧ x ≤ 255) (i : Nat) (hi : i < xs.length) : bt (strOfNums xs) i = rd xs i := by
  have h1 := bs_get (strOfNums xs) i (by rw [str_size]; exact hi)
  rw [bs_str h] at h1
  unfold rd
  rw [List.getD_eq_getElem?_getD, Int.toNat_natCast, h1]
  rfl
theorem bt_bs (s : ByteArray) (i : Int) : bt s i = rd (bs s) i := by
  unfold rd
  rw [List.getD_eq_getElem?_getD]
  by_cases h : i.toNat < s.size
  · have := bs_get s i.toNat h
    rw [this]
    unfold bt
    simp only [Int.toNat_natCast]
    rw [dif_pos h]
    rfl
  · rw [List.getElem?_eq_none (by rw [bs_length]; omega)]
    unfold bt
    rw [dif_neg h]
    rfl
theorem toList_eq {s t : ByteArray} : s.toList = t.toList ↔ s = t := by
  rw [ByteArray.toList_eq, ByteArray.toList_eq]
  constructor
  · intro h; cases s; cases t; simpa [Array.toList_inj] using h
  · rintro rfl; rfl
theorem tdiv_e {n : Int} (h : 0 ≤ n) (m : Int) : Int.tdiv n m = n / m := Int.tdiv_eq_ediv_of_nonneg h
theorem tmod_e {n : Int} (h : 0 ≤ n) (m : Int) : Int.tmod n m = n % m := Int.tmod_eq_emod_of_nonneg h

/-! ### FnExactHex -/
/-- The figure of a number below sixteen. -/
def hexd (d : Int) : Int := if d < 10 then 48 + d else 87 + d
def hexL (xs : List Int) : List Int := xs.flatMap fun c => [hexd (c / 16), hexd (c % 16)]
theorem hexL_cons (c : Int) (xs : List Int) : hexL (c :: xs) = [hexd (c / 16), hexd (c % 16)] ++ hexL xs := by simp [hexL]
theorem specFigure_is (d : Int) (h0 : 0 ≤ d) (h1 : d < 16) : spec_l01Figure.f d = some (hexd d) := by
  unfold spec_l01Figure.f hexd
  by_cases h : d < 10
  · rw [if_pos h, if_pos h, w64 (by omega) (by omega), Int.emod_eq_of_lt (by omega) (by omega)]
  · rw [if_neg h, if_neg h, w64 (n := 97 + d) (by omega) (by omega), w64 (by omega) (by omega), Int.emod_eq_of_lt (by omega) (by omega)]
    congr 1; omega
theorem digits_is (d : Int) (h0 : 0 ≤ d) (h1 : d < 16) : bt (⟨#[48, 49, 50, 51, 52, 53, 54, 55, 56, 57, 97, 98, 99, 100, 101, 102]⟩ : ByteArray) d = hexd d := by
  have h : d = 0 ∨ d = 1 ∨ d = 2 ∨ d = 3 ∨ d = 4 ∨ d = 5 ∨ d = 6 ∨ d = 7 ∨ d = 8 ∨ d = 9 ∨ d = 10 ∨ d = 11 ∨ d = 12 ∨ d = 13 ∨ d = 14 ∨ d = 15 := by omega
  rcases h with rfl | rfl | rfl | rfl | rfl | rfl | rfl | rfl | rfl | rfl | rfl | rfl | rfl | rfl | rfl | rfl <;> rfl
theorem specHex_l0 (s : ByteArray) (hs : s.size ≤ 20000) (d : Nat) : ∀ (k i : Nat) (acc : List Int), s.size - i ≤ d → d < k → i ≤ s.size → acc.length = 2 * i →
    spec_Hex.l0 k s acc (i : Int) = some (strOfNums (acc ++ hexL ((bs s).drop i)), true) := by
  induction d with
  | zero =>
    intro k i acc hd hk hi ha
    obtain ⟨k, rfl⟩ : ∃ k', k = k' + 1 := ⟨k - 1, by omega⟩
    rw [spec_Hex.l0, if_neg (by omega), bs_drop_nil s i (by omega)]
    simp [hexL]
  | succ d ih =>
    intro k i acc hd hk hi ha
    obtain ⟨k, rfl⟩ : ∃ k', k = k' + 1 := ⟨k - 1, by omega⟩
    by_cases h : i < s.size
    · have hr := bt_range s (i : Int)
      rw [spec_Hex.l0, if_pos (by omega), if_pos (by omega), w64_bt, Int.tdiv_eq_ediv_of_nonneg hr.1, Int.tmod_eq_emod_of_nonneg hr.1, w64 (by omega) (by omega), specFigure_is _ (by omega) (by omega), Option.bind_some,
        specFigure_is _ (by omega) (by omega), Option.bind_some, Option.bind_some, if_pos (by simp only [List.length_cons, List.length_nil]; omega), w64_succ h (by omega),
        ih k (i + 1) _ (by omega) (by omega) (by omega) (by simp only [List.length_append, List.length_cons, List.length_nil]; omega), bs_drop s i h, hexL_cons, List.append_assoc]
    · rw [spec_Hex.l0, if_neg (by omega), bs_drop_nil s i (by omega)]
      simp [hexL]
theorem implHex_l0 (s : ByteArray) (hs : s.size ≤ 20000) (d : Nat) : ∀ (k i : Nat) (acc : List Int), s.size - i ≤ d → d < k → i ≤ s.size → acc.length = 2 * i →
    impl_Hex.l0 k s acc (i : Int) = some (strOfNums (acc ++ hexL ((bs s).drop i)), true) := by
  induction d with
  | zero =>
    intro k i acc hd hk hi ha
    obtain ⟨k, rfl⟩ : ∃ k', k = k' + 1 := ⟨k - 1, by omega⟩
    rw [impl_Hex.l0, if_neg (by omega), bs_drop_nil s i (by omega)]
    simp [hexL]
  | succ d ih =>
    intro k i acc hd hk hi ha
    obtain ⟨k, rfl⟩ : ∃ k', k = k' + 1 := ⟨k - 1, by omega⟩
    by_cases h : i < s.size
    · have hr := bt_range s (i : Int)
      rw [impl_Hex.l0, if_pos (by omega), if_pos (by omega), Int.tdiv_eq_ediv_of_nonneg hr.1, Int.tmod_eq_emod_of_nonneg hr.1, Int.emod_eq_of_lt (a := bt s (i : Int) / 16) (b := 256) (by omega) (by omega), if_pos (by omega), if_pos (by omega), if_pos (by omega), if_pos (by omega),
        digits_is _ (by omega) (by omega), digits_is _ (by omega) (by omega), Option.bind_some, if_pos (by simp only [List.length_cons, List.length_nil]; omega), w64_succ h (by omega),
        ih k (i + 1) _ (by omega) (by omega) (by omega) (by simp only [List.length_append, List.length_cons, List.length_nil]; omega), bs_drop s i h, hexL_cons, List.append_assoc]
    · rw [impl_Hex.l0, if_neg (by omega), bs_drop_nil s i (by omega)]
      simp [hexL]
theorem FnExactHex : laws_FnExactHex.Pure := by
  intro s hs
  refine ⟨s.size + 1, ?_⟩
  unfold laws_FnExactHex.f
  by_cases h : (s.size : Int) > 1048576
  · rw [if_pos h]
  · rw [if_neg h]
    have e : spec_Hex.f (s.size + 1) s = impl_Hex.f (s.size + 1) s ∧ ∃ r, impl_Hex.f (s.size + 1) s = some r := by
      unfold spec_Hex.f impl_Hex.f
      by_cases h2 : (s.size : Int) > 20000
      · rw [if_pos h2, if_pos h2]; exact ⟨rfl, _, rfl⟩
      · rw [if_neg h2, if_neg h2]
        have e1 := specHex_l0 s (by omega) s.size (s.size + 1) 0 [] (by omega) (by omega) (by omega) rfl
        have e2 := implHex_l0 s (by omega) s.size (s.size + 1) 0 [] (by omega) (by omega) (by omega) rfl
        exact ⟨e1.trans e2.symm, _, e2⟩
    obtain ⟨e, r, hr⟩ := e
    rw [e, hr, Option.bind_some, Option.bind_some, if_pos rfl, if_neg (by simp)]

end Go.Proofs.Ytlgdkpoaldaabaa.Pure
