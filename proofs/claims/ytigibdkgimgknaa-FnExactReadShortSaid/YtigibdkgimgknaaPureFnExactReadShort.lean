/- FnExactReadShort without Go: at every string and place the program's ReadShort and the reference's answer the same. -/
import Derived.Test.YtigibdkgimgknaaPFnExactReadShortx2
set_option linter.unusedVariables false
set_option linter.unusedSimpArgs false
set_option maxHeartbeats 400000
namespace Go.Proofs.Ytigibdkgimgknaa.Pure
open Go.RowKit Go.Proofs.Ytigibdkgimgknaa.PFnExactReadShort Go.Proofs.YtigibdkgimgknaaW.PrintWords Go.Proofs.YtigibdkgimgknaaW.PrintLast
/-! ### base -/
theorem w64 {n : Int} (h : -9223372036854775808 ≤ n) (h' : n ≤ 9223372036854775807) : wrap64 n = n := by unfold wrap64; omega
theorem w64_succ {i m : Nat} (h : i < m) (hm : m ≤ 140737488351232) : wrap64 ((i : Int) + 1) = ((i + 1 : Nat) : Int) := by
  rw [w64 (by omega) (by omega)]; omega
theorem w64_bt (s : ByteArray) (i : Int) : wrap64 (bt s i) = bt s i := by
  have := bt_range s i
  exact w64 (by omega) (by omega)
/-- A string's bytes as numbers. -/
def bs (s : ByteArray) : List Int := s.data.toList.map fun b => (b.toNat : Int)
theorem bs_length (s : ByteArray) : (bs s).length = s.size := by simp [bs]
theorem bs_get (s : ByteArray) (i : Nat) (h : i < s.size) : (bs s)[i]? = some (bt s i) := by
  have h2 : i < s.data.toList.length := by simpa using h
  simp only [bs, List.getElem?_map, List.getElem?_eq_getElem h2, Option.map_some]
  unfold bt
  rw [dif_pos (by simpa using h)]
  rfl
theorem bs_drop (s : ByteArray) (i : Nat) (h : i < s.size) : (bs s).drop i = bt s i :: (bs s).drop (i + 1) := by
  have h2 : i < (bs s).length := by rw [bs_length]; exact h
  rw [List.drop_eq_getElem_cons h2]
  congr 1
  have := bs_get s i h
  rw [List.getElem?_eq_getElem h2] at this
  exact Option.some.inj this
theorem bs_drop_nil (s : ByteArray) (i : Nat) (h : s.size ≤ i) : (bs s).drop i = [] := List.drop_eq_nil_of_le (by rw [bs_length]; exact h)
theorem bs_range {s : ByteArray} {c : Int} (h : c ∈ bs s) : 0 ≤ c ∧ c ≤ 255 := by
  simp only [bs, List.mem_map] at h
  obtain ⟨b, _, rfl⟩ := h
  have := b.toNat_lt
  omega
theorem bs_inj {s t : ByteArray} (h : bs s = bs t) : s = t := by
  have hd : s.data.toList = t.data.toList := by
    refine List.map_inj_right (f := fun b : UInt8 => (b.toNat : Int)) (fun a b hab => ?_) |>.1 h
    have hab2 : (a.toNat : Int) = b.toNat := hab
    exact UInt8.toNat_inj.1 (by omega)
  cases s; cases t
  simp only [ByteArray.mk.injEq]
  exact Array.toList_inj.1 hd
theorem bs_str {xs : List Int} (h : ∀ x ∈ xs, 0 ≤ x ∧ x ≤ 255) : bs (strOfNums xs) = xs := by
  unfold bs strOfNums
  simp only [List.map_map]
  conv => rhs; rw [← List.map_id xs]
  refine List.map_congr_left fun x hx => ?_
  have := h x hx
  simp only [Function.comp, id, UInt8.toNat_ofNat']
  omega
theorem str_bs (s : ByteArray) : strOfNums (bs s) = s := bs_inj (bs_str fun _ hx => bs_range hx)
theorem str_size (xs : List Int) : (strOfNums xs).size = xs.length := by
  show ((xs.map fun n => UInt8.ofNat n.toNat).toArray).size = xs.length
  simp
theorem bs_append (s t : ByteArray) : bs (s ++ t) = bs s ++ bs t := by
  simp [bs]
theorem bs_empty : bs (⟨#[]⟩ : ByteArray) = [] := rfl
theorem bt_str {xs : List Int} (h : ∀ x ∈ xs, 0 ≤ x ∧ x ≤ 255) (i : Nat) (hi : i < xs.length) : bt (strOfNums xs) i = rd xs i := by
  have h1 := bs_get (strOfNums xs) i (by rw [str_size]; exact hi)
  rw [bs_str h] at h1
  unfold rd
  rw [List.getD_eq_getElem?_getD, Int.toNat_natCast, h1]
  rfl
theorem bt_bs (s : ByteArray) (i : Int) : bt s i = rd (bs s) i := by
  unfold rd
  rw [List.getD_eq_getElem?_getD]
  by_cases h : i.toNat < s.size
  · have := bs_get s i.toNat h
    rw [this]
    unfold bt
    simp only [Int.toNat_natCast]
    rw [dif_pos h]
    rfl
  · rw [List.getElem?_eq_none (by rw [bs_length]; omega)]
    unfold bt
    rw [dif_neg h]
    rfl
theorem toList_eq {s t : ByteArray} : s.toList = t.toList ↔ s = t := by
  rw [ByteArray.toList_eq, ByteArray.toList_eq]
  constructor
  · intro h; cases s; cases t; simpa [Array.toList_inj] using h
  · rintro rfl; rfl
theorem tdiv_e {n : Int} (h : 0 ≤ n) (m : Int) : Int.tdiv n m = n / m := Int.tdiv_eq_ediv_of_nonneg h
theorem tmod_e {n : Int} (h : 0 ≤ n) (m : Int) : Int.tmod n m = n % m := Int.tmod_eq_emod_of_nonneg h

/-! ### extract -/
theorem bs_extract (s : ByteArray) (a b : Nat) : bs (s.extract a b) = ((bs s).drop a).take (b - a) := by
  unfold bs
  rw [ByteArray.data_extract, Array.toList_extract, List.extract_eq_take_drop, List.map_take, List.map_drop]
theorem toList_iff {s t : ByteArray} : s.toList = t.toList ↔ bs s = bs t := by
  rw [toList_eq]
  exact ⟨fun h => h ▸ rfl, bs_inj⟩

/-! ### varBytes -/
/-- A number in bytes. -/
def varBytes (n : Nat) : List Int := if n ≤ 127 then [(n : Int)] else ((n % 128 + 128 : Nat) : Int) :: varBytes (n / 128)
termination_by n
theorem varBytes_small {n : Nat} (h : n ≤ 127) : varBytes n = [(n : Int)] := by rw [varBytes, if_pos h]
theorem varBytes_big {n : Nat} (h : ¬ n ≤ 127) : varBytes n = ((n % 128 + 128 : Nat) : Int) :: varBytes (n / 128) := by rw [varBytes, if_neg h]
theorem varBytes_range (n : Nat) : ∀ x ∈ varBytes n, 0 ≤ x ∧ x ≤ 255 := by
  induction n using Nat.strongRecOn with
  | ind n ih =>
    intro x hx
    by_cases h : n ≤ 127
    · rw [varBytes_small h] at hx; simp only [List.mem_singleton] at hx; omega
    · rw [varBytes_big h] at hx
      simp only [List.mem_cons] at hx
      rcases hx with rfl | hx
      · omega
      · exact ih (n / 128) (by omega) x hx
theorem varBytes_length (n : Nat) : (varBytes n).length ≤ n + 1 := by
  induction n using Nat.strongRecOn with
  | ind n ih =>
    by_cases h : n ≤ 127
    · rw [varBytes_small h]; simp
    · rw [varBytes_big h]
      have := ih (n / 128) (by omega)
      simp only [List.length_cons]; omega

/-! ### l01Var -/
theorem l01Var_l0 (n : Nat) : ∀ (k : Nat) (acc : List Int), n < k → n ≤ 9223372036854775807 → acc.length + n < 140737488355328 →
    spec_l01Var.l0 k (n : Int) acc = some (strOfNums (acc ++ varBytes n)) := by
  induction n using Nat.strongRecOn with
  | ind n ih =>
    intro k acc hk hn hl
    obtain ⟨k, rfl⟩ : ∃ m, k = m + 1 := ⟨k - 1, by omega⟩
    rw [spec_l01Var.l0]
    by_cases h : n ≤ 127
    · rw [if_neg (by omega), if_pos (by omega), varBytes_small h, show (n : Int) % 256 = n from by omega]
    · have e := ih (n / 128) (by omega) k (acc ++ [((n % 128 + 128 : Nat) : Int)]) (by omega) (by omega) (by simp; omega)
      rw [if_pos (by omega), if_pos (by omega), tdiv_e (by omega), tmod_e (by omega), w64 (by omega) (by omega), w64 (by omega) (by omega),
        show (((n : Int) % 128) + 128) % 256 = ((n % 128 + 128 : Nat) : Int) from by omega, show (n : Int) / 128 = ((n / 128 : Nat) : Int) from by omega, e, varBytes_big h]
      simp
theorem l01Var_is (n k : Nat) (hk : n < k) (hn : n < 140737488355328) : spec_l01Var.f k (n : Int) = some (strOfNums (varBytes n)) := by
  unfold spec_l01Var.f
  rw [l01Var_l0 n k [] hk (by omega) (by simpa using hn)]; rfl

/-! ### within -/
theorem within_is (a b c : Int) : impl_within.f a b c = some (decide (b ≤ a ∧ a ≤ c)) := by
  unfold impl_within.f
  by_cases h : a ≥ b
  · rw [if_pos h]; simp [show b ≤ a from h]
  · rw [if_neg h]; simp [show ¬ b ≤ a from h]

/-! ### l01In -/
theorem l01In_is (a b c : Int) : spec_l01In.f a b c = some (decide (b ≤ a ∧ a ≤ c)) := by
  unfold spec_l01In.f
  by_cases h : a ≥ b
  · rw [if_pos h]; simp [show b ≤ a from h]
  · rw [if_neg h]; simp [show ¬ b ≤ a from h]

/-! ### readVar -/
/-- The number that these bytes tell, seven bits each, the lowest first. -/
def valL : List Int → Nat
  | [] => 0
  | b :: l => b.toNat % 128 + 128 * valL l
/-- 128 to the j. -/
def pw : Nat → Nat
  | 0 => 1
  | j + 1 => 128 * pw j
theorem pow_le (j : Nat) (h : j < 5) : pw j ≤ 268435456 := by
  match j, h with
  | 0, _ => simp only [pw]; omega
  | 1, _ => simp only [pw]; omega
  | 2, _ => simp only [pw]; omega
  | 3, _ => simp only [pw]; omega
  | 4, _ => simp only [pw]; omega
theorem pw_two (j : Nat) : (2 : Int) ^ (7 * j) = (pw j : Int) := by
  induction j with
  | zero => rfl
  | succ j ih =>
    rw [show 7 * (j + 1) = 7 * j + 7 from by omega, Int.pow_add, ih]
    simp only [pw]
    omega
theorem valL_snoc (l : List Int) (c : Int) : valL (l ++ [c]) = valL l + c.toNat % 128 * pw l.length := by
  induction l with
  | nil => simp [valL, pw]
  | cons b l ih =>
    simp only [List.cons_append, valL, ih, List.length_cons, pw]
    rw [Nat.mul_add, Nat.add_assoc, Nat.mul_left_comm]
theorem canon_yes (l : List Int) (c : Nat) (hc : c < 128) (h : l = [] ∨ c ≠ 0) (hl : ∀ x ∈ l, 128 ≤ x ∧ x ≤ 255) : varBytes (valL (l ++ [(c : Int)])) = l ++ [(c : Int)] ∧ (c ≠ 0 → valL (l ++ [(c : Int)]) ≠ 0) := by
  induction l with
  | nil =>
    simp only [List.nil_append, valL]
    rw [show ((c : Int)).toNat % 128 + 128 * 0 = c from by omega, varBytes_small (by omega)]
    exact ⟨rfl, fun h => h⟩
  | cons b l ih =>
    have hc0 : c ≠ 0 := by rcases h with h | h; · cases h
                           · exact h
    obtain ⟨i1, i2⟩ := ih (.inr hc0) (fun x hx => hl x (List.mem_cons_of_mem _ hx))
    have hb := hl b (List.mem_cons_self ..)
    have i3 := i2 hc0
    simp only [List.cons_append, valL]
    rw [varBytes_big (by omega), show (b.toNat % 128 + 128 * valL (l ++ [(c : Int)])) / 128 = valL (l ++ [(c : Int)]) from by omega, i1]
    refine ⟨?_, fun _ => by omega⟩
    congr 1
    omega
theorem canon_no (l : List Int) (hl : l ≠ []) : ∀ n, varBytes n ≠ l ++ [(0 : Int)] := by
  induction l with
  | nil => exact absurd rfl hl
  | cons b l ih =>
    intro n h
    by_cases hn : n ≤ 127
    · rw [varBytes_small hn] at h
      simp at h
    · rw [varBytes_big hn] at h
      simp only [List.cons_append, List.cons.injEq] at h
      by_cases hl0 : l = []
      · subst hl0
        by_cases h2 : n / 128 ≤ 127
        · rw [varBytes_small h2] at h
          simp at h; omega
        · rw [varBytes_big h2] at h
          have := h.2
          simp only [List.nil_append, List.cons.injEq] at this
          omega
      · exact ih hl0 _ h.2
theorem canon (l : List Int) (c : Nat) (hc : c < 128) (hl : ∀ x ∈ l, 128 ≤ x ∧ x ≤ 255) : varBytes (valL (l ++ [(c : Int)])) = l ++ [(c : Int)] ↔ (l = [] ∨ c ≠ 0) := by
  constructor
  · intro h
    by_cases h0 : l = []
    · exact .inl h0
    · refine .inr fun hc0 => ?_
      subst hc0
      exact canon_no l h0 _ h
  · intro h
    exact (canon_yes l c hc h hl).1
/-- What is read from a place on, at most r bytes more. -/
def readGo (s : ByteArray) (a : Nat) : Nat → Nat → Nat → Int × Int × Bool
  | 0, _, _ => (0, 0, false)
  | r + 1, j, n =>
    if a + j < s.size then
      if bt s ((a + j : Nat) : Int) > 127 then readGo s a r (j + 1) (n + (bt s ((a + j : Nat) : Int)).toNat % 128 * pw j)
      else if (j > 0 ∧ bt s ((a + j : Nat) : Int) = 0) ∨ n + (bt s ((a + j : Nat) : Int)).toNat % 128 * pw j > 1000000000 then (0, 0, false)
      else (((n + (bt s ((a + j : Nat) : Int)).toNat % 128 * pw j : Nat) : Int), ((a + j + 1 : Nat) : Int), true)
    else (0, 0, false)
theorem pow_shift (j : Nat) (x : Int) (hj : j < 5) (hx : 0 ≤ x ∧ x < 128) : shl .i64 x (wrap64 (7 * (j : Int))) = x * (pw j : Int) := by
  have hp := pow_le j hj
  have h1 : (wrap64 (7 * (j : Int))).toNat = 7 * j := by rw [w64 (by omega) (by omega)]; omega
  have h3 : x * (pw j : Int) ≤ 127 * 268435456 := Int.mul_le_mul (by omega) (by omega) (by omega) (by omega)
  have h4 : 0 ≤ x * (pw j : Int) := Int.mul_nonneg (by omega) (by omega)
  unfold shl
  rw [h1, show min (7 * j) IntKind.i64.bits = 7 * j from by simp only [IntKind.bits]; omega, pw_two, IntKind.wrap_i64]
  omega
theorem implRead_l0 (s : ByteArray) (a : Nat) (hs : s.size ≤ 140737488351232) (ha : a ≤ s.size) (r : Nat) : ∀ (k j n : Nat), j + r = 5 → 2 * r + 2 ≤ k → n ≤ 268435456 * 128 * j →
    impl_ReadVar.l0 k s (a : Int) (n : Int) (j : Int) = some (readGo s a r j n) := by
  induction r with
  | zero =>
    intro k j n hj hk hn
    obtain ⟨k, rfl⟩ : ∃ m, k = m + 1 + 1 := ⟨k - 2, by omega⟩
    rw [impl_ReadVar.l0, if_neg (by omega), impl_ReadVar.j1, if_neg (by simp)]; rfl
  | succ r ih =>
    intro k j n hj hk hn
    obtain ⟨k, rfl⟩ : ∃ m, k = m + 1 + 1 := ⟨k - 2, by omega⟩
    have hw : wrap64 ((a : Int) + (j : Int)) = ((a + j : Nat) : Int) := by rw [w64 (by omega) (by omega)]; omega
    rw [impl_ReadVar.l0, if_pos (by omega), hw]
    unfold readGo
    by_cases hi : a + j < s.size
    · have hb := bt_range s ((a + j : Nat) : Int)
      have hp := pow_le j (by omega)
      have hsz : n + (bt s ((a + j : Nat) : Int)).toNat % 128 * pw j ≤ 268435456 * 128 * (j + 1) := by
        have : (bt s ((a + j : Nat) : Int)).toNat % 128 * pw j ≤ 127 * 268435456 := Nat.mul_le_mul (by omega) hp
        omega
      have hv : wrap64 ((n : Int) + shl .i64 (Int.tmod (wrap64 (bt s ((a + j : Nat) : Int))) 128) (wrap64 (7 * (j : Int)))) = ((n + (bt s ((a + j : Nat) : Int)).toNat % 128 * pw j : Nat) : Int) := by
        rw [w64_bt, tmod_e (by omega), pow_shift j _ (by omega) (by omega)]
        rw [show (bt s ((a + j : Nat) : Int)) % 128 = (((bt s ((a + j : Nat) : Int)).toNat % 128 : Nat) : Int) from by omega]
        rw [← Int.natCast_mul, ← Int.natCast_add, w64 (by omega) (by omega)]
      rw [show decide (((a + j : Nat) : Int) < (s.size : Int)) = true from decide_eq_true (by omega), impl_ReadVar.j1, if_pos (show true = true from rfl), hw, if_pos (by omega), if_pos (by omega), if_pos (by rw [w64 (by omega) (by omega)]; omega)]
      rw [hv, w64_bt, if_pos hi]
      by_cases hc : bt s ((a + j : Nat) : Int) > 127
      · rw [if_pos hc, if_pos hc, show wrap64 ((j : Int) + 1) = ((j + 1 : Nat) : Int) from by rw [w64 (by omega) (by omega)]; omega]
        exact ih k (j + 1) _ (by omega) (by omega) hsz
      · rw [if_neg hc, if_neg hc]
        by_cases hbad : ((n + (bt s ((a + j : Nat) : Int)).toNat % 128 * pw j : Nat) : Int) > 1000000000
        · rw [if_pos (show _ ∨ _ from .inr (by omega))]
          by_cases hj0 : (j : Int) > 0
          · rw [if_pos hj0, if_pos hbad]; split <;> rfl
          · rw [if_neg hj0, if_pos hbad]
        · by_cases hj0 : (j : Int) > 0
          · rw [if_pos hj0, if_neg hbad, w64_succ hi hs]
            by_cases hz : bt s ((a + j : Nat) : Int) = 0
            · rw [if_pos hz, if_pos (show _ ∨ _ from .inl ⟨by omega, hz⟩)]
            · rw [if_neg hz, if_neg (by rintro (⟨_, h⟩ | h); · exact hz h
                                        · omega)]
          · rw [if_neg hj0, if_neg hbad, w64_succ hi hs, if_neg (by rintro (⟨h, _⟩ | h) <;> omega)]
    · rw [show decide (((a + j : Nat) : Int) < (s.size : Int)) = false from decide_eq_false (by omega), impl_ReadVar.j1, if_neg (by simp), if_neg hi]
/-- What ReadVar tells. -/
def readVarR (s : ByteArray) (a : Int) : Int × Int × Bool := if 0 ≤ a ∧ a ≤ s.size then readGo s a.toNat 5 0 0 else (0, 0, false)
theorem implReadVar_is (s : ByteArray) (a : Int) (hs : s.size ≤ 140737488351232) (k : Nat) (hk : 12 ≤ k) : impl_ReadVar.f k s a = some (readVarR s a) := by
  unfold impl_ReadVar.f readVarR
  rw [within_is, Option.bind_some]
  by_cases h : 0 ≤ a ∧ a ≤ s.size
  · rw [if_pos (by simpa using h), if_pos h]
    obtain ⟨m, rfl⟩ := Int.eq_ofNat_of_zero_le h.1
    exact implRead_l0 s m hs (by omega) 5 k 0 0 (by omega) (by omega) (by omega)
  · rw [if_neg (by simpa using h), if_neg h]
theorem specRead_l0 (K : Nat) (hK : 1000000000 < K) (s : ByteArray) (a : Nat) (hs : s.size ≤ 140737488351232) (ha : a ≤ s.size) (r : Nat) : ∀ (k j n : Nat), j + r = 5 → 2 * r + 2 + K ≤ k → n ≤ 268435456 * 128 * j →
    a + j ≤ s.size ∨ j = 0 → n = valL (((bs s).drop a).take j) → (∀ x ∈ ((bs s).drop a).take j, 128 ≤ x ∧ x ≤ 255) →
    spec_ReadVar.l0 k s (a : Int) (n : Int) ((pw j : Nat) : Int) ((a + j : Nat) : Int) = some (readGo s a r j n) := by
  induction r with
  | zero =>
    intro k j n hj hk hn _ _ _
    obtain ⟨k, rfl⟩ : ∃ m, k = m + 1 + 1 := ⟨k - 2, by omega⟩
    have hf : decide (((a + j : Nat) : Int) < wrap64 ((a : Int) + 5)) = false := by rw [w64 (by omega) (by omega)]; exact decide_eq_false (by omega)
    rw [spec_ReadVar.l0, hf]
    simp only [ite_self]
    rw [spec_ReadVar.j1, if_neg (by simp)]; rfl
  | succ r ih =>
    intro k j n hj hk hn haj hval hall
    obtain ⟨k, rfl⟩ : ∃ m, k = m + 1 + 1 := ⟨k - 2, by omega⟩
    have hf : decide (((a + j : Nat) : Int) < wrap64 ((a : Int) + 5)) = true := by rw [w64 (by omega) (by omega)]; exact decide_eq_true (by omega)
    rw [spec_ReadVar.l0, hf]
    unfold readGo
    by_cases hi : a + j < s.size
    · have hb := bt_range s ((a + j : Nat) : Int)
      have hp := pow_le j (by omega)
      have htk : ((bs s).drop a).take (j + 1) = ((bs s).drop a).take j ++ [bt s ((a + j : Nat) : Int)] := by
        rw [List.take_add_one, List.getElem?_drop, bs_get s (a + j) hi]; rfl
      have hlen : (((bs s).drop a).take j).length = j := by rw [List.length_take, List.length_drop, bs_length]; omega
      have hval' : n + (bt s ((a + j : Nat) : Int)).toNat % 128 * pw j = valL (((bs s).drop a).take (j + 1)) := by rw [htk, valL_snoc, hlen, hval]
      have hsz : n + (bt s ((a + j : Nat) : Int)).toNat % 128 * pw j ≤ 268435456 * 128 * (j + 1) := by
        have : (bt s ((a + j : Nat) : Int)).toNat % 128 * pw j ≤ 127 * 268435456 := Nat.mul_le_mul (by omega) hp
        omega
      have hm : (bt s ((a + j : Nat) : Int)).toNat % 128 * pw j ≤ 127 * 268435456 := Nat.mul_le_mul (by omega) hp
      have hv : wrap64 ((n : Int) + wrap64 ((Int.tmod (wrap64 (bt s ((a + j : Nat) : Int))) 128) * ((pw j : Nat) : Int))) = ((n + (bt s ((a + j : Nat) : Int)).toNat % 128 * pw j : Nat) : Int) := by
        rw [w64_bt, tmod_e (by omega)]
        rw [show (bt s ((a + j : Nat) : Int)) % 128 = (((bt s ((a + j : Nat) : Int)).toNat % 128 : Nat) : Int) from by omega]
        rw [← Int.natCast_mul, w64 (n := (((bt s ((a + j : Nat) : Int)).toNat % 128 * pw j : Nat) : Int)) (by omega) (by omega), ← Int.natCast_add, w64 (by omega) (by omega)]
      rw [if_pos (by omega), spec_ReadVar.j1, if_pos (show true = true from rfl), if_pos (by omega), if_pos (by omega), hv, w64_succ hi hs, if_pos hi]
      by_cases hc : bt s ((a + j : Nat) : Int) > 127
      · rw [if_neg (by omega), if_pos hc, show wrap64 (((pw j : Nat) : Int) * 128) = ((pw (j + 1) : Nat) : Int) from by rw [w64 (by omega) (by omega)]; simp only [pw]; omega]
        refine ih k (j + 1) _ (by omega) (by omega) hsz (.inl (by omega)) hval' ?_
        rw [htk]
        intro x hx
        simp only [List.mem_append, List.mem_singleton] at hx
        rcases hx with hx | rfl
        · exact hall x hx
        · omega
      · rw [if_pos (by omega), if_neg hc]
        by_cases hbad : ((n + (bt s ((a + j : Nat) : Int)).toNat % 128 * pw j : Nat) : Int) > 1000000000
        · rw [if_pos hbad, if_pos (show _ ∨ _ from .inr (by omega))]
        · rw [if_neg hbad, l01Var_is _ _ (by omega) (by omega), Option.bind_some, if_pos (by omega), if_pos (by omega), if_pos (by omega)]
          obtain ⟨c, hcn⟩ := Int.eq_ofNat_of_zero_le hb.1
          have hcan := canon (((bs s).drop a).take j) c (by omega) hall
          rw [← hcn, ← htk, ← hval'] at hcan
          have hex : (strOfNums (varBytes (n + (bt s ((a + j : Nat) : Int)).toNat % 128 * pw j))).toList = (s.extract ((a : Int)).toNat (((a + j + 1 : Nat) : Int)).toNat).toList ↔ (((bs s).drop a).take j = [] ∨ c ≠ 0) := by
            rw [toList_iff, bs_str (varBytes_range _), bs_extract, ← hcan]
            rw [show (((a + j + 1 : Nat) : Int)).toNat - ((a : Int)).toNat = j + 1 from by omega, show ((a : Int)).toNat = a from by omega]
          have hj0 : ((bs s).drop a).take j = [] ↔ j = 0 := by
            rw [← List.length_eq_zero_iff, hlen]
          rw [hj0] at hex
          by_cases hg : j = 0 ∨ c ≠ 0
          · rw [if_pos (hex.2 hg), if_neg (by rintro (h | h) <;> omega)]
          · rw [if_neg (fun h => hg (hex.1 h)), if_pos (.inl (by omega))]
    · rw [if_neg (by omega), spec_ReadVar.j1, if_neg (by simp), if_neg hi]
theorem specReadVar_is (s : ByteArray) (a : Int) (hs : s.size ≤ 140737488351232) (k : Nat) (hk : 1000000013 ≤ k) : spec_ReadVar.f k s a = some (readVarR s a) := by
  unfold spec_ReadVar.f readVarR
  rw [l01In_is, Option.bind_some]
  by_cases h : 0 ≤ a ∧ a ≤ s.size
  · rw [if_pos (by simpa using h), if_pos h]
    obtain ⟨m, rfl⟩ := Int.eq_ofNat_of_zero_le h.1
    exact specRead_l0 1000000001 (by omega) s m hs (by omega) 5 k 0 0 (by omega) (by omega) (by omega) (.inr rfl) rfl (by simp)
  · rw [if_neg (by simpa using h), if_neg h]

/-! ### readShort -/
theorem readGo_range (s : ByteArray) (a : Nat) (r : Nat) : ∀ (j n : Nat), (readGo s a r j n).2.2 = true → 0 ≤ (readGo s a r j n).1 ∧ (readGo s a r j n).1 ≤ 1000000000 ∧ 0 ≤ (readGo s a r j n).2.1 ∧ (readGo s a r j n).2.1 ≤ s.size := by
  induction r with
  | zero => intro j n h; simp [readGo] at h
  | succ r ih =>
    intro j n h
    unfold readGo at h ⊢
    by_cases h1 : a + j < s.size
    · rw [if_pos h1] at h ⊢
      by_cases h2 : bt s ((a + j : Nat) : Int) > 127
      · rw [if_pos h2] at h ⊢
        exact ih _ _ h
      · rw [if_neg h2] at h ⊢
        by_cases h3 : (j > 0 ∧ bt s ((a + j : Nat) : Int) = 0) ∨ n + (bt s ((a + j : Nat) : Int)).toNat % 128 * pw j > 1000000000
        · rw [if_pos h3] at h; cases h
        · rw [if_neg h3]
          have h4 : ¬ (n + (bt s ((a + j : Nat) : Int)).toNat % 128 * pw j > 1000000000) := fun h => h3 (.inr h)
          refine ⟨?_, ?_, ?_, ?_⟩
          · exact Int.natCast_nonneg _
          · show ((n + (bt s ((a + j : Nat) : Int)).toNat % 128 * pw j : Nat) : Int) ≤ _; omega
          · exact Int.natCast_nonneg _
          · show ((a + j + 1 : Nat) : Int) ≤ _; omega
    · rw [if_neg h1] at h; cases h
theorem readVarR_range (s : ByteArray) (a : Int) (h : (readVarR s a).2.2 = true) : 0 ≤ (readVarR s a).1 ∧ (readVarR s a).1 ≤ 1000000000 ∧ 0 ≤ (readVarR s a).2.1 ∧ (readVarR s a).2.1 ≤ s.size := by
  unfold readVarR at h ⊢
  by_cases h1 : 0 ≤ a ∧ a ≤ s.size
  · rw [if_pos h1] at h ⊢
    exact readGo_range s _ 5 0 0 h
  · rw [if_neg h1] at h; cases h
/-- What ReadShort tells. -/
def readShortR (s : ByteArray) (a : Int) : ByteArray × Int × Bool :=
  if (readVarR s a).2.2 = true then
    if (readVarR s a).1 > 20000 then (⟨#[]⟩, 0, false)
    else if (readVarR s a).1 > (s.size : Int) - (readVarR s a).2.1 then (⟨#[]⟩, 0, false)
    else (s.extract (readVarR s a).2.1.toNat ((readVarR s a).2.1 + (readVarR s a).1).toNat, (readVarR s a).2.1 + (readVarR s a).1, true)
  else (⟨#[]⟩, 0, false)

/-! ### specReadShort -/
theorem specReadShort_is (s : ByteArray) (a : Int) (hs : s.size ≤ 140737488351232) (k : Nat) (hk : 1000000013 ≤ k) : spec_ReadShort.f k s a = some (readShortR s a) := by
  unfold spec_ReadShort.f readShortR
  have hr := readVarR_range s a
  rw [specReadVar_is s a hs k (by omega), Option.bind_some]
  generalize readVarR s a = t at *
  by_cases h : t.2.2 = true
  · have hr := hr h
    have e1 : wrap64 ((s.size : Int) - t.2.1) = (s.size : Int) - t.2.1 := w64 (by omega) (by omega)
    have e2 : wrap64 (t.2.1 + t.1) = t.2.1 + t.1 := w64 (by omega) (by omega)
    rw [if_pos h, if_pos h, e1, e2]
    clear e1 e2
    by_cases h1 : t.1 > 20000
    · rw [if_pos h1, if_pos h1]
    · rw [if_neg h1, if_neg h1]
      by_cases h2 : t.1 > (s.size : Int) - t.2.1
      · rw [if_pos h2, if_pos h2]
      · rw [if_neg h2, if_neg h2, if_pos (by omega), if_pos (by omega), if_pos (by omega)]
  · rw [if_neg h, if_neg h]

/-! ### implReadShort -/
theorem implReadShort_is (s : ByteArray) (a : Int) (hs : s.size ≤ 140737488351232) (k : Nat) (hk : 1000000013 ≤ k) : impl_ReadShort.f k s a = some (readShortR s a) := by
  unfold impl_ReadShort.f readShortR
  have hr := readVarR_range s a
  rw [implReadVar_is s a hs k (by omega), Option.bind_some]
  generalize readVarR s a = t at *
  by_cases h : t.2.2 = true
  · have hr := hr h
    have e1 : wrap64 ((s.size : Int) - t.2.1) = (s.size : Int) - t.2.1 := w64 (by omega) (by omega)
    have e2 : wrap64 (t.2.1 + t.1) = t.2.1 + t.1 := w64 (by omega) (by omega)
    rw [if_pos h, if_pos h, e1, e2]
    clear e1 e2
    by_cases h1 : t.1 > 20000
    · rw [if_pos h1, if_pos h1]
    · rw [if_neg h1, if_neg h1]
      by_cases h2 : t.1 > (s.size : Int) - t.2.1
      · rw [if_pos h2, if_pos h2]
      · rw [if_neg h2, if_neg h2, if_pos (by omega), if_pos (by omega), if_pos (by omega)]
  · rw [if_neg h, if_neg h]

/-! ### FnExactReadShort -/
theorem FnExactReadShort : laws_FnExactReadShort.Pure := by
  intro s a hs _
  refine ⟨1000000013, ?_⟩
  unfold laws_FnExactReadShort.f
  by_cases h : (s.size : Int) > 1048576
  · rw [if_pos h]
  · rw [if_neg h, specReadShort_is s a hs _ (by omega), implReadShort_is s a hs _ (by omega)]; simp

end Go.Proofs.Ytigibdkgimgknaa.Pure
