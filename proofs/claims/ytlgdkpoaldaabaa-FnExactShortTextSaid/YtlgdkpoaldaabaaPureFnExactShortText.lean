/- FnExactShortText without Go: at every string the program's ShortText and the reference's answer the same. -/
import Derived.Test.YtlgdkpoaldaabaaPFnExactShortTextx1
set_option linter.unusedVariables false
set_option linter.unusedSimpArgs false
set_option maxHeartbeats 400000
namespace Go.Proofs.Ytlgdkpoaldaabaa.Pure
open Go.RowKit Go.Proofs.Ytlgdkpoaldaabaa.PFnExactShortText Go.Proofs.YtlgdkpoaldaabaaW.PrintWords Go.Proofs.YtlgdkpoaldaabaaW.PrintLast
/-! ### base -/
theorem w64 {n : Int} (h : -9223372036854775808 ≤ n) (h' : n ≤ 9223372036854775807) : wrap64 n = n := by unfold wrap64; omega
theorem w64_succ {i m : Nat} (h : i < m) (hm : m ≤ 140737488351232) : wrap64 ((i : Int) + 1) = ((i + 1 : Nat) : Int) := by
  rw [w64 (by omega) (by omega)]; omega
theorem w64_bt (s : ByteArray) (i : Int) : wrap64 (bt s i) = bt s i := by
  have := bt_range s i
  exact w64 (by omega) (by omega)
/-- A string's bytes as numbers. -/
def bs (s : ByteArray) : List Int := s.data.toList.map fun b => (b.toNat : Int)
theorem bs_length (s : ByteArray) : (bs s).length = s.size := by simp [bs]
theorem bs_get (s : ByteArray) (i : Nat) (h : i < s.size) : (bs s)[i]? = some (bt s i) := by
  have h2 : i < s.data.toList.length := by simpa using h
  simp only [bs, List.getElem?_map, List.getElem?_eq_getElem h2, Option.map_some]
  unfold bt
  rw [dif_pos (by simpa using h)]
  rfl
theorem bs_drop (s : ByteArray) (i : Nat) (h : i < s.size) : (bs s).drop i = bt s i :: (bs s).drop (i + 1) := by
  have h2 : i < (bs s).length := by rw [bs_length]; exact h
  rw [List.drop_eq_getElem_cons h2]
  congr 1
  have := bs_get s i h
  rw [List.getElem?_eq_getElem h2] at this
  exact Option.some.inj this
theorem bs_drop_nil (s : ByteArray) (i : Nat) (h : s.size ≤ i) : (bs s).drop i = [] := List.drop_eq_nil_of_le (by rw [bs_length]; exact h)
theorem bs_range {s : ByteArray} {c : Int} (h : c ∈ bs s) : 0 ≤ c ∧ c ≤ 255 := by
  simp only [bs, List.mem_map] at h
  obtain ⟨b, _, rfl⟩ := h
  have := b.toNat_lt
  omega
theorem bs_inj {s t : ByteArray} (h : bs s = bs t) : s = t := by
  have hd : s.data.toList = t.data.toList := by
    refine List.map_inj_right (f := fun b : UInt8 => (b.toNat : Int)) (fun a b hab => ?_) |>.1 h
    have hab2 : (a.toNat : Int) = b.toNat := hab
    exact UInt8.toNat_inj.1 (by omega)
  cases s; cases t
  simp only [ByteArray.mk.injEq]
  exact Array.toList_inj.1 hd
theorem bs_str {xs : List Int} (h : ∀ x ∈ xs, 0 ≤ x ∧ x ≤ 255) : bs (strOfNums xs) = xs := by
  unfold bs strOfNums
  simp only [List.map_map]
  conv => rhs; rw [← List.map_id xs]
  refine List.map_congr_left fun x hx => ?_
  have := h x hx
  simp only [Function.comp, id, UInt8.toNat_ofNat']
  omega
theorem str_bs (s : ByteArray) : strOfNums (bs s) = s := bs_inj (bs_str fun _ hx => bs_range hx)
theorem str_size (xs : List Int) : (strOfNums xs).size = xs.length := by
  show ((xs.map fun n => UInt8.ofNat n.toNat).toArray).size = xs.length
  simp
theorem bs_append (s t : ByteArray) : bs (s ++ t) = bs s ++ bs t := by
  simp [bs]
theorem bs_empty : bs (⟨#[]⟩ : ByteArray) = [] := rfl
theorem bt_str {xs : List Int} (h : ∀ x ∈ xs, 0 ≤ x ∧ x ≤ 255) (i : Nat) (hi : i < xs.length) : bt (strOfNums xs) i = rd xs i := by
  have h1 := bs_get (strOfNums xs) i (by rw [str_size]; exact hi)
  rw [bs_str h] at h1
  unfold rd
  rw [List.getD_eq_getElem?_getD, Int.toNat_natCast, h1]
  rfl
theorem bt_bs (s : ByteArray) (i : Int) : bt s i = rd (bs s) i := by
  unfold rd
  rw [List.getD_eq_getElem?_getD]
  by_cases h : i.toNat < s.size
  · have := bs_get s i.toNat h
    rw [this]
    unfold bt
    simp only [Int.toNat_natCast]
    rw [dif_pos h]
    rfl
  · rw [List.getElem?_eq_none (by rw [bs_length]; omega)]
    unfold bt
    rw [dif_neg h]
    rfl
theorem toList_eq {s t : ByteArray} : s.toList = t.toList ↔ s = t := by
  rw [ByteArray.toList_eq, ByteArray.toList_eq]
  constructor
  · intro h; cases s; cases t; simpa [Array.toList_inj] using h
  · rintro rfl; rfl
theorem tdiv_e {n : Int} (h : 0 ≤ n) (m : Int) : Int.tdiv n m = n / m := Int.tdiv_eq_ediv_of_nonneg h
theorem tmod_e {n : Int} (h : 0 ≤ n) (m : Int) : Int.tmod n m = n % m := Int.tmod_eq_emod_of_nonneg h

/-! ### varBytes -/
/-- A number in bytes. -/
def varBytes (n : Nat) : List Int := if n ≤ 127 then [(n : Int)] else ((n % 128 + 128 : Nat) : Int) :: varBytes (n / 128)
termination_by n
theorem varBytes_small {n : Nat} (h : n ≤ 127) : varBytes n = [(n : Int)] := by rw [varBytes, if_pos h]
theorem varBytes_big {n : Nat} (h : ¬ n ≤ 127) : varBytes n = ((n % 128 + 128 : Nat) : Int) :: varBytes (n / 128) := by rw [varBytes, if_neg h]
theorem varBytes_range (n : Nat) : ∀ x ∈ varBytes n, 0 ≤ x ∧ x ≤ 255 := by
  induction n using Nat.strongRecOn with
  | ind n ih =>
    intro x hx
    by_cases h : n ≤ 127
    · rw [varBytes_small h] at hx; simp only [List.mem_singleton] at hx; omega
    · rw [varBytes_big h] at hx
      simp only [List.mem_cons] at hx
      rcases hx with rfl | hx
      · omega
      · exact ih (n / 128) (by omega) x hx
theorem varBytes_length (n : Nat) : (varBytes n).length ≤ n + 1 := by
  induction n using Nat.strongRecOn with
  | ind n ih =>
    by_cases h : n ≤ 127
    · rw [varBytes_small h]; simp
    · rw [varBytes_big h]
      have := ih (n / 128) (by omega)
      simp only [List.length_cons]; omega

/-! ### l01Var -/
theorem l01Var_l0 (n : Nat) : ∀ (k : Nat) (acc : List Int), n < k → n ≤ 9223372036854775807 → acc.length + n < 140737488355328 →
    spec_l01Var.l0 k (n : Int) acc = some (strOfNums (acc ++ varBytes n)) := by
  induction n using Nat.strongRecOn with
  | ind n ih =>
    intro k acc hk hn hl
    obtain ⟨k, rfl⟩ : ∃ m, k = m + 1 := ⟨k - 1, by omega⟩
    rw [spec_l01Var.l0]
    by_cases h : n ≤ 127
    · rw [if_neg (by omega), if_pos (by omega), varBytes_small h, show (n : Int) % 256 = n from by omega]
    · have e := ih (n / 128) (by omega) k (acc ++ [((n % 128 + 128 : Nat) : Int)]) (by omega) (by omega) (by simp; omega)
      rw [if_pos (by omega), if_pos (by omega), tdiv_e (by omega), tmod_e (by omega), w64 (by omega) (by omega), w64 (by omega) (by omega),
        show (((n : Int) % 128) + 128) % 256 = ((n % 128 + 128 : Nat) : Int) from by omega, show (n : Int) / 128 = ((n / 128 : Nat) : Int) from by omega, e, varBytes_big h]
      simp
theorem l01Var_is (n k : Nat) (hk : n < k) (hn : n < 140737488355328) : spec_l01Var.f k (n : Int) = some (strOfNums (varBytes n)) := by
  unfold spec_l01Var.f
  rw [l01Var_l0 n k [] hk (by omega) (by simpa using hn)]; rfl

/-! ### within -/
theorem within_is (a b c : Int) : impl_within.f a b c = some (decide (b ≤ a ∧ a ≤ c)) := by
  unfold impl_within.f
  by_cases h : a ≥ b
  · rw [if_pos h]; simp [show b ≤ a from h]
  · rw [if_neg h]; simp [show ¬ b ≤ a from h]

/-! ### implVarText -/
theorem implVarText_l0 (n : Nat) : ∀ (k : Nat) (acc : List Int), n < k → n ≤ 9223372036854775807 → acc.length + n < 140737488355328 →
    impl_VarText.l0 k (n : Int) acc = some (strOfNums (acc ++ varBytes n), true) := by
  induction n using Nat.strongRecOn with
  | ind n ih =>
    intro k acc hk hn hl
    obtain ⟨k, rfl⟩ : ∃ m, k = m + 1 := ⟨k - 1, by omega⟩
    rw [impl_VarText.l0]
    by_cases h : n ≤ 127
    · rw [if_neg (by omega), if_pos (by omega), varBytes_small h, show (n : Int) % 256 = n from by omega]
    · have e := ih (n / 128) (by omega) k (acc ++ [((n % 128 + 128 : Nat) : Int)]) (by omega) (by omega) (by simp; omega)
      rw [if_pos (by omega), if_pos (by omega), tdiv_e (by omega), tmod_e (by omega), w64 (by omega) (by omega), w64 (by omega) (by omega),
        show (((n : Int) % 128) + 128) % 256 = ((n % 128 + 128 : Nat) : Int) from by omega, show (n : Int) / 128 = ((n / 128 : Nat) : Int) from by omega, e, varBytes_big h]
      simp
/-- What VarText tells of any whole number. -/
def varTextR (n : Int) : ByteArray × Bool := if 0 ≤ n ∧ n ≤ 1000000000 then (strOfNums (varBytes n.toNat), true) else (⟨#[]⟩, false)
theorem implVarText_is (n : Int) (k : Nat) (hk : 1000000000 < k) : impl_VarText.f k n = some (varTextR n) := by
  unfold impl_VarText.f varTextR
  rw [within_is, Option.bind_some]
  by_cases h : 0 ≤ n ∧ n ≤ 1000000000
  · rw [if_pos (by simpa using h), if_pos h]
    obtain ⟨m, rfl⟩ := Int.eq_ofNat_of_zero_le h.1
    rw [show ((m : Int)).toNat = m from by omega]
    exact implVarText_l0 m k [] (by omega) (by omega) (by simp; omega)
  · rw [if_neg (by simpa using h), if_neg h]
theorem implVarText_nat (n k : Nat) (hn : n ≤ 1000000000) (hk : n < k) : impl_VarText.f k (n : Int) = some (strOfNums (varBytes n), true) := by
  unfold impl_VarText.f
  rw [within_is, Option.bind_some, if_pos (by simp; omega)]
  exact implVarText_l0 n k [] hk (by omega) (by simp; omega)

/-! ### FnExactShortText -/
theorem FnExactShortText : laws_FnExactShortText.Pure := by
  intro s hs
  refine ⟨s.size + 1, ?_⟩
  unfold laws_FnExactShortText.f
  by_cases h : (s.size : Int) > 1048576
  · rw [if_pos h]
  · rw [if_neg h]
    unfold spec_ShortText.f impl_ShortText.f
    by_cases h2 : (s.size : Int) > 20000
    · rw [if_pos h2, if_pos h2]; simp
    · rw [if_neg h2, if_neg h2, l01Var_is _ _ (by omega) (by omega), implVarText_nat _ _ (by omega) (by omega)]
      simp only [Option.bind_some]
      have hv : (varBytes s.size).length ≤ s.size + 1 := varBytes_length _
      rw [if_pos (by rw [str_size]; omega)]; simp

end Go.Proofs.Ytlgdkpoaldaabaa.Pure
