/- FnExactDecimal without Go: at every int the program's Decimal and the reference's answer the same. -/
import Derived.Test.YtnmhggdaccbbfaaDoorMFnExactDecimalx1
import Derived.Lib.ItoaNum
set_option linter.unusedVariables false
set_option linter.unusedSimpArgs false
set_option maxHeartbeats 400000
namespace Go.Proofs.YtnmhggdaccbbfaaDoor.Pure
open Go.RowKit Go.Proofs.YtnmhggdaccbbfaaDoor.MFnExactDecimal Go.Proofs.YtnmhggdaccbbfaaDoorW.PrintWords Go.Proofs.YtnmhggdaccbbfaaDoorW.PrintLast
/-! ### base -/
theorem w64 {n : Int} (h : -9223372036854775808 ≤ n) (h' : n ≤ 9223372036854775807) : wrap64 n = n := by unfold wrap64; omega
theorem w64_succ {i m : Nat} (h : i < m) (hm : m ≤ 140737488351232) : wrap64 ((i : Int) + 1) = ((i + 1 : Nat) : Int) := by
  rw [w64 (by omega) (by omega)]; omega
theorem w64_bt (s : ByteArray) (i : Int) : wrap64 (bt s i) = bt s i := by
  have := bt_range s i
  exact w64 (by omega) (by omega)
/-- A string's bytes as numbers. -/
def bs (s : ByteArray) : List Int := s.data.toList.map fun b => (b.toNat : Int)
theorem bs_length (s : ByteArray) : (bs s).length = s.size := by simp [bs]
theorem bs_get (s : ByteArray) (i : Nat) (h : i < s.size) : (bs s)[i]? = some (bt s i) := by
  have h2 : i < s.data.toList.length := by simpa using h
  simp only [bs, List.getElem?_map, List.getElem?_eq_getElem h2, Option.map_some]
  unfold bt
  rw [dif_pos (by simpa using h)]
  rfl
theorem bs_drop (s : ByteArray) (i : Nat) (h : i < s.size) : (bs s).drop i = bt s i :: (bs s).drop (i + 1) := by
  have h2 : i < (bs s).length := by rw [bs_length]; exact h
  rw [List.drop_eq_getElem_cons h2]
  congr 1
  have := bs_get s i h
  rw [List.getElem?_eq_getElem h2] at this
  exact Option.some.inj this
theorem bs_drop_nil (s : ByteArray) (i : Nat) (h : s.size ≤ i) : (bs s).drop i = [] := List.drop_eq_nil_of_le (by rw [bs_length]; exact h)
theorem bs_range {s : ByteArray} {c : Int} (h : c ∈ bs s) : 0 ≤ c ∧ c ≤ 255 := by
  simp only [bs, List.mem_map] at h
  obtain ⟨b, _, rfl⟩ := h
  have := b.toNat_lt
  omega
theorem bs_inj {s t : ByteArray} (h : bs s = bs t) : s = t := by
  have hd : s.data.toList = t.data.toList := by
    refine List.map_inj_right (f := fun b : UInt8 => (b.toNat : Int)) (fun a b hab => ?_) |>.1 h
    have hab2 : (a.toNat : Int) = b.toNat := hab
    exact UInt8.toNat_inj.1 (by omega)
  cases s; cases t
  simp only [ByteArray.mk.injEq]
  exact Array.toList_inj.1 hd
theorem bs_str {xs : List Int} (h : ∀ x ∈ xs, 0 ≤ x ∧ x ≤ 255) : bs (strOfNums xs) = xs := by
  unfold bs strOfNums
  simp only [List.map_map]
  conv => rhs; rw [← List.map_id xs]
  refine List.map_congr_left fun x hx => ?_
  have := h x hx
  simp only [Function.comp, id, UInt8.toNat_ofNat']
  omega
theorem str_bs (s : ByteArray) : strOfNums (bs s) = s := bs_inj (bs_str fun _ hx => bs_range hx)
theorem str_size (xs : List Int) : (strOfNums xs).size = xs.length := by
  show ((xs.map fun n => UInt8.ofNat n.toNat).toArray).size = xs.length
  simp
theorem bs_append (s t : ByteArray) : bs (s ++ t) = bs s ++ bs t := by
  simp [bs]
theorem bs_empty : bs (⟨#[]⟩ : ByteArray) = [] := rfl
theorem bt_str {xs : List Int} (h : ∀ x ∈ xs, 0 ≤ x ∧ x ≤ 255) (i : Nat) (hi : i < xs.length) : bt (strOfNums xs) i = rd xs i := by
  have h1 := bs_get (strOfNums xs) i (by rw [str_size]; exact hi)
  rw [bs_str h] at h1
  unfold rd
  rw [List.getD_eq_getElem?_getD, Int.toNat_natCast, h1]
  rfl
theorem bt_bs (s : ByteArray) (i : Int) : bt s i = rd (bs s) i := by
  unfold rd
  rw [List.getD_eq_getElem?_getD]
  by_cases h : i.toNat < s.size
  · have := bs_get s i.toNat h
    rw [this]
    unfold bt
    simp only [Int.toNat_natCast]
    rw [dif_pos h]
    rfl
  · rw [List.getElem?_eq_none (by rw [bs_length]; omega)]
    unfold bt
    rw [dif_neg h]
    rfl
theorem toList_eq {s t : ByteArray} : s.toList = t.toList ↔ s = t := by
  rw [ByteArray.toList_eq, ByteArray.toList_eq]
  constructor
  · intro h; cases s; cases t; simpa [Array.toList_inj] using h
  · rintro rfl; rfl
theorem tdiv_e {n : Int} (h : 0 ≤ n) (m : Int) : Int.tdiv n m = n / m := Int.tdiv_eq_ediv_of_nonneg h
theorem tmod_e {n : Int} (h : 0 ≤ n) (m : Int) : Int.tmod n m = n % m := Int.tmod_eq_emod_of_nonneg h

/-! ### specDecimal -/
/-! the reference's decimal numeral is the library's -/
def digs (m : Nat) : List UInt8 := if m = 0 then [] else Go.Lib.decDigits m
theorem digs_step (m : Nat) (h : m ≠ 0) : digs m = digs (m / 10) ++ [UInt8.ofNat (48 + m % 10)] := by
  unfold digs
  rw [if_neg h, Go.Lib.decDigits]
  by_cases h10 : m < 10
  · rw [dif_pos h10, if_pos (by omega), Nat.mod_eq_of_lt h10]; rfl
  · rw [dif_neg h10, if_neg (by omega)]
theorem figure_is (a : Nat) (h : a < 10) : spec_l01Figure.f (a : Int) = some ((48 + a : Nat) : Int) := by
  unfold spec_l01Figure.f
  rw [if_pos (by omega), w64 (by omega) (by omega)]
  congr 1
  omega
theorem str_cons (a : Nat) (l : List UInt8) : strOfNums [(a : Int)] ++ (⟨l.toArray⟩ : ByteArray) = ⟨(UInt8.ofNat a :: l).toArray⟩ := by
  have h : (strOfNums [(a : Int)] ++ (⟨l.toArray⟩ : ByteArray)).data.toList = (⟨(UInt8.ofNat a :: l).toArray⟩ : ByteArray).data.toList := by simp [strOfNums]
  revert h
  generalize strOfNums [(a : Int)] ++ (⟨l.toArray⟩ : ByteArray) = x
  generalize (⟨(UInt8.ofNat a :: l).toArray⟩ : ByteArray) = y
  intro h
  cases x; cases y
  simp only [ByteArray.mk.injEq]
  exact Array.toList_inj.1 h
theorem minus_cons (l : List UInt8) : (⟨#[45]⟩ : ByteArray) ++ (⟨l.toArray⟩ : ByteArray) = ⟨(45 :: l).toArray⟩ := str_cons 45 l
theorem tmod_abs (x : Int) : (Int.tmod x 10).natAbs = x.natAbs % 10 := by
  rw [Int.natAbs_tmod]; rfl
theorem tdiv_abs (x : Int) : (Int.tdiv x 10).natAbs = x.natAbs / 10 := by
  rw [Int.natAbs_tdiv]; rfl
theorem tmod_nonneg_iff (x : Int) : (0 ≤ x → 0 ≤ Int.tmod x 10) ∧ (x ≤ 0 → Int.tmod x 10 ≤ 0) := by
  refine ⟨fun h => Int.tmod_nonneg 10 h, fun h => ?_⟩
  have := Int.tmod_nonneg 10 (show 0 ≤ -x by omega)
  rw [Int.neg_tmod] at this
  omega
theorem tdiv_range (x : Int) (h0 : -9223372036854775808 ≤ x) (h1 : x ≤ 9223372036854775807) : -9223372036854775808 ≤ Int.tdiv x 10 ∧ Int.tdiv x 10 ≤ 9223372036854775807 := by
  have := tdiv_abs x
  omega
theorem specDecimal_l0 (d : Nat) : ∀ (k : Nat) (x : Int) (below : Bool) (acc : List UInt8), x.natAbs < 10 ^ d → -9223372036854775808 ≤ x → x ≤ 9223372036854775807 → acc.length + d ≤ 1000 → d < k →
    spec_Decimal.l0 k x below ⟨acc.toArray⟩ = some (if below = true then ⟨(45 :: (digs x.natAbs ++ acc)).toArray⟩ else ⟨(digs x.natAbs ++ acc).toArray⟩) := by
  have hsz : ∀ l : List UInt8, (⟨l.toArray⟩ : ByteArray).size = l.length := fun l => rfl
  have hend : ∀ (k : Nat) (below : Bool) (acc : List UInt8), acc.length ≤ 1000 → 1 ≤ k → spec_Decimal.l0 k 0 below ⟨acc.toArray⟩ = some (if below = true then ⟨(45 :: (digs 0 ++ acc)).toArray⟩ else ⟨(digs 0 ++ acc).toArray⟩) := by
    intro k below acc ha hk
    obtain ⟨k, rfl⟩ : ∃ k', k = k' + 1 := ⟨k - 1, by omega⟩
    rw [spec_Decimal.l0, if_pos rfl]
    cases below with
    | true => rw [if_pos rfl, if_pos rfl, if_pos (by rw [hsz]; omega), minus_cons]; rfl
    | false => rw [if_neg (by simp), if_neg (by simp)]; rfl
  induction d with
  | zero =>
    intro k x below acc hx h0 h1 ha hk
    have : x = 0 := by simp only [Nat.pow_zero] at hx; omega
    subst this
    exact hend k below acc (by omega) (by omega)
  | succ d ih =>
    intro k x below acc hx h0 h1 ha hk
    by_cases hz : x = 0
    · subst hz; exact hend k below acc (by omega) (by omega)
    · obtain ⟨k, rfl⟩ : ∃ k', k = k' + 1 := ⟨k - 1, by omega⟩
      have hm := tmod_abs x
      have hq := tdiv_abs x
      obtain ⟨q0, q1⟩ := tdiv_range x h0 h1
      have hne : x.natAbs ≠ 0 := by omega
      have hlt : x.natAbs % 10 < 10 := Nat.mod_lt _ (by omega)
      have hrec := ih k (Int.tdiv x 10) below (UInt8.ofNat (48 + x.natAbs % 10) :: acc) (by rw [hq]; rw [Nat.pow_succ] at hx; omega) q0 q1 (by simp only [List.length_cons]; omega) (by omega)
      have hfin : spec_Decimal.l0 k (Int.tdiv x 10) below (strOfNums [((48 + x.natAbs % 10 : Nat) : Int)] ++ ⟨acc.toArray⟩) = some (if below = true then ⟨(45 :: (digs x.natAbs ++ acc)).toArray⟩ else ⟨(digs x.natAbs ++ acc).toArray⟩) := by
        rw [str_cons, hrec, hq, digs_step _ hne]
        simp only [List.append_assoc, List.cons_append, List.nil_append]
      have h1' : (strOfNums [((48 + x.natAbs % 10 : Nat) : Int)]).size = 1 := str_size _
      rw [spec_Decimal.l0, if_neg hz, w64 q0 q1]
      by_cases hneg : Int.tmod x 10 < 0
      · have e : wrap64 (-(Int.tmod x 10)) = ((x.natAbs % 10 : Nat) : Int) := by rw [w64 (by omega) (by omega)]; omega
        rw [if_pos hneg, e, figure_is _ hlt, Option.bind_some, Option.bind_some, if_pos (by rw [h1', hsz]; omega)]
        exact hfin
      · have e : Int.tmod x 10 = ((x.natAbs % 10 : Nat) : Int) := by omega
        rw [if_neg hneg, e, figure_is _ hlt, Option.bind_some, Option.bind_some, if_pos (by rw [h1', hsz]; omega)]
        exact hfin
theorem specDecimal_is (n : Int) (h0 : -9223372036854775808 ≤ n) (h1 : n ≤ 9223372036854775807) (k : Nat) (hk : 30 ≤ k) : spec_Decimal.f k n = some ⟨(Go.Lib.itoa n).toArray⟩ := by
  unfold spec_Decimal.f Go.Lib.itoa
  by_cases hz : n = 0
  · subst hz
    rw [if_pos rfl, if_neg (by omega)]
    have : Go.Lib.decDigits (Int.toNat 0) = [48] := Go.Lib.decDigits_one (by decide)
    rw [this]
  · have h := specDecimal_l0 20 k n (decide (n < 0)) [] (by have : (10 : Nat) ^ 20 = 100000000000000000000 := by decide
                                                            omega) h0 h1 (by simp) (by omega)
    rw [if_neg hz]
    refine h.trans ?_
    rw [List.append_nil]
    have hd : digs n.natAbs = Go.Lib.decDigits n.natAbs := by unfold digs; rw [if_neg (by omega)]
    rw [hd]
    by_cases hn : n < 0
    · rw [if_pos (by simpa using hn), if_pos hn]
    · rw [if_neg (by simpa using hn), if_neg hn, show n.natAbs = n.toNat by omega]

/-! ### implDecimal -/
theorem implDecimal_is (n : Int) (h0 : -9223372036854775808 ≤ n) (h1 : n ≤ 9223372036854775807) : impl_Decimal.f n = some ⟨(Go.Lib.itoa n).toArray⟩ := by
  unfold impl_Decimal.f strconv_Itoa.f
  rw [if_pos h0, if_pos h1, Option.bind_some]

/-! ### FnExactDecimal -/
theorem FnExactDecimal : laws_FnExactDecimal.Pure := by
  intro n hn
  have hb : -9223372036854775808 ≤ n ∧ n ≤ 9223372036854775807 := by
    simp only [Lit.wf] at hn
    rw [Bool.and_eq_true] at hn
    have h1 := of_decide_eq_true hn.1
    have h2 := of_decide_eq_true hn.2
    exact ⟨h1, h2⟩
  refine ⟨30, ?_⟩
  unfold laws_FnExactDecimal.f
  rw [specDecimal_is n hb.1 hb.2 30 (by omega), implDecimal_is n hb.1 hb.2, Option.bind_some, Option.bind_some, if_pos rfl]

end Go.Proofs.YtnmhggdaccbbfaaDoor.Pure
