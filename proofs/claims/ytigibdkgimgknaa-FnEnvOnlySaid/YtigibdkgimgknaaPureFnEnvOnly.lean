/- FnEnvOnly without Go: of drawn names the program's EnvOnly leaves just those that are asked for, as they were. -/
import Derived.Test.YtigibdkgimgknaaMFnEnvOnlyx6
set_option linter.unusedVariables false
set_option linter.unusedSimpArgs false
set_option maxHeartbeats 400000
namespace Go.Proofs.Ytigibdkgimgknaa.Pure
open Go.RowKit Go.Proofs.Ytigibdkgimgknaa.MFnEnvOnly Go.Proofs.YtigibdkgimgknaaW.PrintWords Go.Proofs.YtigibdkgimgknaaW.PrintLast
/-! ### base -/
theorem w64 {n : Int} (h : -9223372036854775808 ≤ n) (h' : n ≤ 9223372036854775807) : wrap64 n = n := by unfold wrap64; omega
theorem w64_succ {i m : Nat} (h : i < m) (hm : m ≤ 140737488351232) : wrap64 ((i : Int) + 1) = ((i + 1 : Nat) : Int) := by
  rw [w64 (by omega) (by omega)]; omega
theorem w64_bt (s : ByteArray) (i : Int) : wrap64 (bt s i) = bt s i := by
  have := bt_range s i
  exact w64 (by omega) (by omega)
/-- A string's bytes as numbers. -/
def bs (s : ByteArray) : List Int := s.data.toList.map fun b => (b.toNat : Int)
theorem bs_length (s : ByteArray) : (bs s).length = s.size := by simp [bs]
theorem bs_get (s : ByteArray) (i : Nat) (h : i < s.size) : (bs s)[i]? = some (bt s i) := by
  have h2 : i < s.data.toList.length := by simpa using h
  simp only [bs, List.getElem?_map, List.getElem?_eq_getElem h2, Option.map_some]
  unfold bt
  rw [dif_pos (by simpa using h)]
  rfl
theorem bs_drop (s : ByteArray) (i : Nat) (h : i < s.size) : (bs s).drop i = bt s i :: (bs s).drop (i + 1) := by
  have h2 : i < (bs s).length := by rw [bs_length]; exact h
  rw [List.drop_eq_getElem_cons h2]
  congr 1
  have := bs_get s i h
  rw [List.getElem?_eq_getElem h2] at this
  exact Option.some.inj this
theorem bs_drop_nil (s : ByteArray) (i : Nat) (h : s.size ≤ i) : (bs s).drop i = [] := List.drop_eq_nil_of_le (by rw [bs_length]; exact h)
theorem bs_range {s : ByteArray} {c : Int} (h : c ∈ bs s) : 0 ≤ c ∧ c ≤ 255 := by
  simp only [bs, List.mem_map] at h
  obtain ⟨b, _, rfl⟩ := h
  have := b.toNat_lt
  omega
theorem bs_inj {s t : ByteArray} (h : bs s = bs t) : s = t := by
  have hd : s.data.toList = t.data.toList := by
    refine List.map_inj_right (f := fun b : UInt8 => (b.toNat : Int)) (fun a b hab => ?_) |>.1 h
    have hab2 : (a.toNat : Int) = b.toNat := hab
    exact UInt8.toNat_inj.1 (by omega)
  cases s; cases t
  simp only [ByteArray.mk.injEq]
  exact Array.toList_inj.1 hd
theorem bs_str {xs : List Int} (h : ∀ x ∈ xs, 0 ≤ x ∧ x ≤ 255) : bs (strOfNums xs) = xs := by
  unfold bs strOfNums
  simp only [List.map_map]
  conv => rhs; rw [← List.map_id xs]
  refine List.map_congr_left fun x hx => ?_
  have := h x hx
  simp only [Function.comp, id, UInt8.toNat_ofNat']
  omega
theorem str_bs (s : ByteArray) : strOfNums (bs s) = s := bs_inj (bs_str fun _ hx => bs_range hx)
theorem str_size (xs : List Int) : (strOfNums xs).size = xs.length := by
  show ((xs.map fun n => UInt8.ofNat n.toNat).toArray).size = xs.length
  simp
theorem bs_append (s t : ByteArray) : bs (s ++ t) = bs s ++ bs t := by
  simp [bs]
theorem bs_empty : bs (⟨#[]⟩ : ByteArray) = [] := rfl
theorem bt_str {xs : List Int} (h : ∀ x ∈ xs, 0 ≤ x ∧ x ≤ 255) (i : Nat) (hi : i < xs.length) : bt (strOfNums xs) i = rd xs i := by
  have h1 := bs_get (strOfNums xs) i (by rw [str_size]; exact hi)
  rw [bs_str h] at h1
  unfold rd
  rw [List.getD_eq_getElem?_getD, Int.toNat_natCast, h1]
  rfl
theorem bt_bs (s : ByteArray) (i : Int) : bt s i = rd (bs s) i := by
  unfold rd
  rw [List.getD_eq_getElem?_getD]
  by_cases h : i.toNat < s.size
  · have := bs_get s i.toNat h
    rw [this]
    unfold bt
    simp only [Int.toNat_natCast]
    rw [dif_pos h]
    rfl
  · rw [List.getElem?_eq_none (by rw [bs_length]; omega)]
    unfold bt
    rw [dif_neg h]
    rfl
theorem toList_eq {s t : ByteArray} : s.toList = t.toList ↔ s = t := by
  rw [ByteArray.toList_eq, ByteArray.toList_eq]
  constructor
  · intro h; cases s; cases t; simpa [Array.toList_inj] using h
  · rintro rfl; rfl
theorem tdiv_e {n : Int} (h : 0 ≤ n) (m : Int) : Int.tdiv n m = n / m := Int.tdiv_eq_ediv_of_nonneg h
theorem tmod_e {n : Int} (h : 0 ≤ n) (m : Int) : Int.tmod n m = n % m := Int.tmod_eq_emod_of_nonneg h

/-! ### lists -/
theorem drop_get {α : Type} (xs : List α) (i : Nat) (h : i < xs.length) : xs.drop i = xs[i] :: xs.drop (i + 1) := List.drop_eq_getElem_cons h
theorem w64_len {i n : Nat} (h : i < n) (hn : n ≤ 9223372036854775807) : wrap64 ((i : Int) + 1) = ((i + 1 : Nat) : Int) := by
  rw [w64 (by omega) (by omega)]; omega
theorem take_set {α : Type} (acc : List α) (i : Nat) (v : α) (h : i < acc.length) : (acc.set i v).take (i + 1) = acc.take i ++ [v] := by
  rw [List.take_add_one, List.getElem?_set_self h, List.take_set_of_le (Nat.le_refl i)]; rfl

/-! ### draw -/
/-! what is drawn: the cursor stays within the code; each answer within its bounds -/
theorem and255_range (x : Int) : 0 ≤ Go.bits .and .i64 x 255 ∧ Go.bits .and .i64 x 255 ≤ 255 := by
  have h : Go.bits .and .i64 x 255 = IntKind.i64.wrap (((BitVec.ofInt 64 x) &&& (BitVec.ofInt 64 255)).toNat : Int) := rfl
  have h2 : ((BitVec.ofInt 64 x) &&& (BitVec.ofInt 64 255)).toNat ≤ 255 := by
    rw [BitVec.toNat_and, show (BitVec.ofInt 64 255).toNat = 255 from by decide]
    exact Nat.and_le_right
  rw [h, IntKind.wrap_i64]
  omega
theorem l01New_l0 (b : List Int) (hb : b.length ≤ 140737488351232) (d : Nat) : ∀ (k i : Nat) (h : Int), 4000 - i ≤ d → d < k → i ≤ 4000 → ∃ h', spec_l01New.l0 k b h (i : Int) = some (b, 0, h') := by
  induction d with
  | zero =>
    intro k i h hd hk hi
    obtain ⟨k, rfl⟩ : ∃ m, k = m + 1 := ⟨k - 1, by omega⟩
    rw [spec_l01New.l0]
    by_cases c : (i : Int) < (b.length : Int)
    · rw [if_pos c, if_neg (by omega)]; exact ⟨_, rfl⟩
    · rw [if_neg c]; exact ⟨_, rfl⟩
  | succ d ih =>
    intro k i h hd hk hi
    obtain ⟨k, rfl⟩ : ∃ m, k = m + 1 := ⟨k - 1, by omega⟩
    rw [spec_l01New.l0]
    by_cases c : (i : Int) < (b.length : Int)
    · rw [if_pos c]
      by_cases c2 : (i : Int) < 4000
      · rw [if_pos c2, if_pos (by omega), w64_len (n := 4000) (by omega) (by omega)]
        exact ih k (i + 1) _ (by omega) (by omega) (by omega)
      · rw [if_neg c2]; exact ⟨_, rfl⟩
    · rw [if_neg c]; exact ⟨_, rfl⟩
theorem l01New_is (b : List Int) (hb : b.length ≤ 140737488351232) (k : Nat) (hk : 4001 ≤ k) : ∃ h', spec_l01New.f k b = some (b, 0, h') := by
  unfold spec_l01New.f
  exact l01New_l0 b hb 4000 k 0 _ (by omega) (by omega) (by omega)
/-- The cursor stands within the code. -/
def At (b : List Int) (i : Int) : Prop := b.length ≤ 140737488351232 ∧ 0 ≤ i ∧ i ≤ (b.length : Int)
theorem l01Byte_is (b : List Int) (i h : Int) (hi : At b i) : ∃ r i' h', spec_l01Byte.f b i h = some (r, i', h') ∧ (0 ≤ r ∧ r ≤ 255) ∧ At b i' := by
  obtain ⟨hb, h0, h1⟩ := hi
  unfold spec_l01Byte.f
  by_cases c : i < (b.length : Int)
  · rw [if_pos c, if_pos h0]
    refine ⟨_, _, _, rfl, and255_range _, hb, ?_⟩
    rw [w64 (by omega) (by omega)]
    omega
  · rw [if_neg c]
    exact ⟨_, _, _, rfl, and255_range _, hb, h0, h1⟩
theorem l01Below_is (b : List Int) (i h : Int) (hi : At b i) (n : Int) (hn : 0 < n) : ∃ r i' h', spec_l01Below.f b i h n = some (r, i', h') ∧ (0 ≤ r ∧ r < n) ∧ At b i' := by
  unfold spec_l01Below.f
  rw [if_neg (by omega)]
  by_cases c : n ≤ 256
  · obtain ⟨r, i', h', e, hr, ha⟩ := l01Byte_is b i h hi
    rw [if_pos c, e, Option.bind_some, if_neg (by omega)]
    refine ⟨_, _, _, rfl, ?_, ha⟩
    show 0 ≤ Int.tmod r n ∧ Int.tmod r n < n
    rw [tmod_e hr.1]
    exact ⟨Int.emod_nonneg _ (by omega), Int.emod_lt_of_pos _ hn⟩
  · obtain ⟨r1, i1, h1, e1, b1, a1⟩ := l01Byte_is b i h hi
    obtain ⟨r2, i2, h2, e2, b2, a2⟩ := l01Byte_is b i1 h1 a1
    obtain ⟨r3, i3, h3, e3, b3, a3⟩ := l01Byte_is b i2 h2 a2
    obtain ⟨r4, i4, h4, e4, b4, a4⟩ := l01Byte_is b i3 h3 a3
    rw [if_neg c, e1, Option.bind_some, e2, Option.bind_some, e3, Option.bind_some, e4, Option.bind_some, if_neg (by omega)]
    refine ⟨_, _, _, rfl, ?_, a4⟩
    show 0 ≤ Int.tmod (wrap64 (wrap64 (wrap64 (wrap64 (r1 * 16777216) + wrap64 (r2 * 65536)) + wrap64 (r3 * 256)) + r4)) n ∧ Int.tmod (wrap64 (wrap64 (wrap64 (wrap64 (r1 * 16777216) + wrap64 (r2 * 65536)) + wrap64 (r3 * 256)) + r4)) n < n
    have hx : 0 ≤ wrap64 (wrap64 (wrap64 (wrap64 (r1 * 16777216) + wrap64 (r2 * 65536)) + wrap64 (r3 * 256)) + r4) := by
      rw [w64 (n := r1 * 16777216) (by omega) (by omega), w64 (n := r2 * 65536) (by omega) (by omega), w64 (n := r3 * 256) (by omega) (by omega), w64 (n := r1 * 16777216 + r2 * 65536) (by omega) (by omega),
        w64 (n := r1 * 16777216 + r2 * 65536 + r3 * 256) (by omega) (by omega), w64 (by omega) (by omega)]
      omega
    rw [tmod_e hx]
    exact ⟨Int.emod_nonneg _ (by omega), Int.emod_lt_of_pos _ hn⟩

/-! ### drawPick -/
theorem l01PickInt_is (b : List Int) (i h : Int) (hi : At b i) (xs : List Int) (hx : xs ≠ []) : ∃ r i' h', spec_l01PickInt.f b i h xs = some (r, i', h') ∧ r ∈ xs ∧ At b i' := by
  have hl : 0 < xs.length := List.length_pos_iff.2 hx
  obtain ⟨r, i', h', e, hr, ha⟩ := l01Below_is b i h hi (xs.length : Int) (by omega)
  unfold spec_l01PickInt.f
  rw [e, Option.bind_some, if_pos hr.1, if_pos hr.2]
  refine ⟨_, _, _, rfl, ?_, ha⟩
  show rd xs r ∈ xs
  unfold rd
  rw [List.getD_eq_getElem?_getD, List.getElem?_eq_getElem (by omega), Option.getD_some]
  exact List.getElem_mem _
theorem l01Pick_is (b : List Int) (i h : Int) (hi : At b i) (xs : List ByteArray) (hx : xs ≠ []) : ∃ r i' h', spec_l01Pick.f b i h xs = some (r, i', h') ∧ r ∈ xs ∧ At b i' := by
  have hl : 0 < xs.length := List.length_pos_iff.2 hx
  obtain ⟨r, i', h', e, hr, ha⟩ := l01Below_is b i h hi (xs.length : Int) (by omega)
  unfold spec_l01Pick.f
  rw [e, Option.bind_some, if_pos hr.1, if_pos hr.2]
  refine ⟨_, _, _, rfl, ?_, ha⟩
  show rdOf ByteArray.empty xs r ∈ xs
  unfold rdOf
  rw [List.getD_eq_getElem?_getD, List.getElem?_eq_getElem (by omega), Option.getD_some]
  exact List.getElem_mem _

/-! ### rdV -/
theorem rdI' (xs : List S51) (i : Nat) (h : i < xs.length) : rd_T51 xs (i : Int) = xs[i] := by simp [rd_T51, List.getD, h]

/-! ### varNameB -/
/-- 1 to 4 letters a-z. -/
def small (c : Int) : Bool := decide (97 ≤ c ∧ c ≤ 122)
def varNameB (s : ByteArray) : Bool := (bs s).all small && decide (1 ≤ (s.size : Int) ∧ (s.size : Int) ≤ 4)

/-! ### isNumB -/
def numB (n : Int) : Bool := decide (-9999 ≤ n ∧ n ≤ 9999)

/-! ### envOk -/
def lessB (a b : ByteArray) : Bool := Op.bytesLess a.toList b.toList

/-- From a name on, the one ahead of it at hand. -/
def envRest : Option ByteArray → List S51 → Bool
  | _, [] => true
  | p, v :: l => varNameB v.f0 && numB v.f1 && (match p with | none => true | some a => lessB a v.f0) && envRest (some v.f0) l
def envOkB (xs : List S51) : Bool := envRest none xs && decide ((xs.length : Int) ≤ 6)
/-- The name ahead of place i. -/
def ahead (xs : List S51) (i : Nat) : Option ByteArray := if i = 0 then none else some (xs.getD (i - 1) z51).f0
theorem ahead_succ (xs : List S51) (i : Nat) (h : i < xs.length) : ahead xs (i + 1) = some xs[i].f0 := by simp [ahead, List.getD, h]

/-! ### envSet -/
def lesser (n : ByteArray) (xs : List S51) : List S51 := xs.filter fun v => lessB v.f0 n
def greater (n : ByteArray) (xs : List S51) : List S51 := xs.filter fun v => lessB n v.f0
theorem lesser_cons (n : ByteArray) (v : S51) (xs : List S51) : lesser n (v :: xs) = (if lessB v.f0 n = true then [v] else []) ++ lesser n xs := by
  unfold lesser
  rw [List.filter_cons]
  by_cases h : lessB v.f0 n = true
  · rw [if_pos h, if_pos h]; rfl
  · rw [if_neg h, if_neg h]; rfl
theorem greater_cons (n : ByteArray) (v : S51) (xs : List S51) : greater n (v :: xs) = (if lessB n v.f0 = true then [v] else []) ++ greater n xs := by
  unfold greater
  rw [List.filter_cons]
  by_cases h : lessB n v.f0 = true
  · rw [if_pos h, if_pos h]; rfl
  · rw [if_neg h, if_neg h]; rfl
theorem lesser_length (n : ByteArray) (xs : List S51) : (lesser n xs).length ≤ xs.length := List.length_filter_le _ _
theorem greater_length (n : ByteArray) (xs : List S51) : (greater n xs).length ≤ xs.length := List.length_filter_le _ _
/-- The list with a name set, whether it may be or not. -/
def putEnv (xs : List S51) (n : ByteArray) (m : Int) : List S51 := lesser n xs ++ [⟨n, m⟩] ++ greater n xs
def setEnv (xs : List S51) (n : ByteArray) (m : Int) : List S51 × Bool := if envOkB (putEnv xs n m) = true then (putEnv xs n m, true) else (xs, false)
theorem putEnv_mem {B : Nat} {xs : List S51} {n : ByteArray} {m : Int} (hx : ∀ y ∈ xs, y.f0.size ≤ B) (hn : n.size ≤ B) : ∀ y ∈ putEnv xs n m, y.f0.size ≤ B := by
  intro y hy
  unfold putEnv at hy
  simp only [List.mem_append, List.mem_singleton] at hy
  rcases hy with (hy | rfl) | hy
  · exact hx y (List.mem_filter.1 hy).1
  · exact hn
  · exact hx y (List.mem_filter.1 hy).1
theorem putEnv_length (xs : List S51) (n : ByteArray) (m : Int) : (putEnv xs n m).length ≤ 2 * xs.length + 1 := by
  unfold putEnv
  have := lesser_length n xs
  have := greater_length n xs
  simp only [List.length_append, List.length_singleton]
  omega

/-! ### l01In -/
theorem l01In_is (a b c : Int) : spec_l01In.f a b c = some (decide (b ≤ a ∧ a ≤ c)) := by
  unfold spec_l01In.f
  by_cases h : a ≥ b
  · rw [if_pos h]; simp [show b ≤ a from h]
  · rw [if_neg h]; simp [show ¬ b ≤ a from h]

/-! ### specVarName -/
theorem specVarName_l0 (s : ByteArray) (hs : s.size ≤ 140737488351232) (d : Nat) : ∀ (k i : Nat), s.size - i ≤ d → d < k →
    spec_VarName.l0 k s (i : Int) = some (((bs s).drop i).all small && decide (1 ≤ (s.size : Int) ∧ (s.size : Int) ≤ 4)) := by
  induction d with
  | zero =>
    intro k i hd hk
    obtain ⟨k, rfl⟩ : ∃ m, k = m + 1 := ⟨k - 1, by omega⟩
    simp only [spec_VarName.l0]
    rw [if_neg (by omega), l01In_is, bs_drop_nil s i (by omega)]; simp
  | succ d ih =>
    intro k i hd hk
    obtain ⟨k, rfl⟩ : ∃ m, k = m + 1 := ⟨k - 1, by omega⟩
    by_cases hi : i < s.size
    · have e := ih k (i + 1) (by omega) (by omega)
      simp only [spec_VarName.l0]
      rw [if_pos (by omega), if_pos (by omega), w64_succ hi hs, e, bs_drop s i hi]
      simp only [List.all_cons]
      by_cases h1 : bt s i < 97
      · rw [if_pos h1, show small (bt s i) = false from by simp [small]; omega]; simp
      · by_cases h2 : bt s i > 122
        · rw [if_neg h1, if_pos h2, show small (bt s i) = false from by simp [small]; omega]; simp
        · rw [if_neg h1, if_neg h2, show small (bt s i) = true from by simp [small]; omega]; simp
    · simp only [spec_VarName.l0]
      rw [if_neg (by omega), l01In_is, bs_drop_nil s i (by omega)]; simp
theorem specVarName_is (s : ByteArray) (hs : s.size ≤ 140737488351232) (k : Nat) (hk : s.size < k) : spec_VarName.f k s = some (varNameB s) := by
  unfold spec_VarName.f
  exact specVarName_l0 s hs s.size k 0 (by omega) hk

/-! ### specEnvOk -/
theorem specEnvOk_l0 (B : Nat) (hB : B ≤ 140737488351232) (xs : List S51) (hx : ∀ y ∈ xs, y.f0.size ≤ B) (hl : xs.length ≤ 9223372036854775807) (d : Nat) : ∀ (k i : Nat), xs.length - i ≤ d → d + B < k →
    spec_EnvOk.l0 k xs (i : Int) = some (envRest (ahead xs i) (xs.drop i) && decide ((xs.length : Int) ≤ 6)) := by
  induction d with
  | zero =>
    intro k i hd hk
    obtain ⟨k, rfl⟩ : ∃ m, k = m + 1 := ⟨k - 1, by omega⟩
    rw [spec_EnvOk.l0, if_neg (by omega), List.drop_eq_nil_of_le (by omega)]; simp [envRest]
  | succ d ih =>
    intro k i hd hk
    obtain ⟨k, rfl⟩ : ∃ m, k = m + 1 := ⟨k - 1, by omega⟩
    by_cases hi : i < xs.length
    · have hs : xs[i].f0.size ≤ B := hx _ (List.getElem_mem hi)
      have e := ih k (i + 1) (by omega) (by omega)
      rw [ahead_succ xs i hi] at e
      rw [spec_EnvOk.l0, if_pos (by omega), if_pos (by omega), rdI' xs i hi, specVarName_is _ (by omega) k (by omega), Option.bind_some, w64_len hi hl, e, drop_get xs i hi]
      simp only [envRest]
      by_cases h1 : varNameB xs[i].f0 = true
      · rw [if_pos h1, l01In_is, Option.bind_some, h1, show decide (-9999 ≤ xs[i].f1 ∧ xs[i].f1 ≤ 9999) = numB xs[i].f1 from rfl]
        by_cases h2 : numB xs[i].f1 = true
        · rw [if_pos h2, h2]
          by_cases h3 : (i : Int) > 0
          · have e2 : wrap64 ((i : Int) - 1) = ((i - 1 : Nat) : Int) := by rw [w64 (by omega) (by omega)]; omega
            rw [if_pos h3, e2, if_pos (by omega), if_pos (by omega), rdI' xs (i - 1) (by omega)]
            have ha : ahead xs i = some xs[i - 1].f0 := by
              unfold ahead
              rw [if_neg (by omega)]
              simp [List.getD, List.getElem?_eq_getElem (show i - 1 < xs.length by omega)]
            rw [ha, show Op.bytesLess xs[i - 1].f0.toList xs[i].f0.toList = lessB xs[i - 1].f0 xs[i].f0 from rfl]
            by_cases h4 : lessB xs[i - 1].f0 xs[i].f0 = true
            · rw [if_pos h4]; simp [h4]
            · rw [if_neg h4]; simp [h4]
          · rw [if_neg h3]
            have ha : ahead xs i = none := by unfold ahead; rw [if_pos (by omega)]
            rw [ha]; simp
        · rw [if_neg h2]; simp [h2]
      · rw [if_neg h1]; simp [h1]
    · rw [spec_EnvOk.l0, if_neg (by omega), List.drop_eq_nil_of_le (by omega)]; simp [envRest]
theorem specEnvOk_is (B : Nat) (hB : B ≤ 140737488351232) (xs : List S51) (hx : ∀ y ∈ xs, y.f0.size ≤ B) (hl : xs.length ≤ 9223372036854775807) (k : Nat) (hk : xs.length + B < k) : spec_EnvOk.f k xs = some (envOkB xs) := by
  unfold spec_EnvOk.f
  exact specEnvOk_l0 B hB xs hx hl xs.length k 0 (by omega) hk

/-! ### specEnvSet -/
/-- What EnvSet does behind its loops. -/
def tailSpec (k : Nat) (xs : List S51) (out : List S51) : Option (List S51 × Bool) :=
  ((spec_EnvOk.f k out).bind fun t204 => (if t204 = true then (some (out, true)) else ((some (([] : List (S51)) : List (S51))).bind fun y205 => (if y205.length + xs.length < 5864062014805 then (some ((y205 ++ xs), false)) else (none)))))
theorem specEnvSet_l1 (xs : List S51) (n : ByteArray) (hl : xs.length ≤ 1048576) (r : Nat) : ∀ (k i : Nat) (out : List S51), xs.length - i = r → out.length ≤ 1048577 + i →
    spec_EnvSet.l1 (k + r + 1) xs n out (i : Int) = tailSpec k xs (out ++ greater n (xs.drop i)) := by
  induction r with
  | zero =>
    intro k i out hr h1
    rw [show k + 0 + 1 = k + 1 from rfl, spec_EnvSet.l1, if_neg (by omega), List.drop_eq_nil_of_le (by omega), show greater n [] = [] from rfl, List.append_nil]
    rfl
  | succ r ih =>
    intro k i out hr h1
    have hi2 : i < xs.length := by omega
    rw [show k + (r + 1) + 1 = (k + r + 1) + 1 from by omega, spec_EnvSet.l1, if_pos (by omega), if_pos (by omega), rdI' xs i hi2, drop_get xs i hi2, greater_cons, w64_len hi2 (by omega)]
    rw [show Op.bytesLess n.toList xs[i].f0.toList = lessB n xs[i].f0 from rfl]
    by_cases c1 : lessB n xs[i].f0 = true
    · rw [if_pos c1, if_pos c1, if_pos (by omega), ih k (i + 1) _ (by omega) (by simp; omega)]
      simp only [List.append_assoc]
    · rw [if_neg c1, if_neg c1, ih k (i + 1) _ (by omega) (by omega), List.nil_append]
theorem specEnvSet_l0 (xs : List S51) (n : ByteArray) (m : Int) (hl : xs.length ≤ 1048576) (r : Nat) : ∀ (k i : Nat) (out : List S51), xs.length - i = r → out.length ≤ i → i ≤ xs.length →
    spec_EnvSet.l0 (k + r + 1) xs n m out (i : Int) = spec_EnvSet.l1 k xs n (out ++ lesser n (xs.drop i) ++ [⟨n, m⟩]) 0 := by
  induction r with
  | zero =>
    intro k i out hr h1 h2
    rw [show k + 0 + 1 = k + 1 from rfl, spec_EnvSet.l0, if_neg (by omega), if_pos (by omega), List.drop_eq_nil_of_le (by omega), show lesser n [] = [] from rfl, List.append_nil]
  | succ r ih =>
    intro k i out hr h1 h2
    have hi2 : i < xs.length := by omega
    rw [show k + (r + 1) + 1 = (k + r + 1) + 1 from by omega, spec_EnvSet.l0, if_pos (by omega), if_pos (by omega), rdI' xs i hi2, drop_get xs i hi2, lesser_cons, w64_len hi2 (by omega)]
    rw [show Op.bytesLess xs[i].f0.toList n.toList = lessB xs[i].f0 n from rfl]
    by_cases c1 : lessB xs[i].f0 n = true
    · rw [if_pos c1, if_pos c1, if_pos (by omega), ih k (i + 1) _ (by omega) (by simp; omega) (by omega)]
      simp only [List.append_assoc]
    · rw [if_neg c1, if_neg c1, ih k (i + 1) _ (by omega) (by omega) (by omega), List.nil_append]
theorem specEnvSet_is (xs : List S51) (n : ByteArray) (m : Int) (hx : ∀ y ∈ xs, y.f0.size ≤ 1048576) (hn : n.size ≤ 1048576) (hl : xs.length ≤ 1048576) (k : Nat) (hk : 4000000 + 2 * xs.length < k) :
    spec_EnvSet.f k xs n m = some (setEnv xs n m) := by
  obtain ⟨k, rfl⟩ : ∃ q, k = q + xs.length + 1 + xs.length + 1 := ⟨k - 2 * xs.length - 2, by omega⟩
  unfold spec_EnvSet.f
  have h1 := lesser_length n xs
  have h3 := putEnv_length xs n m
  rw [show (0 : Int) = ((0 : Nat) : Int) from rfl, specEnvSet_l0 xs n m hl xs.length _ 0 [] (by omega) (by simp) (by omega), List.drop_zero, List.nil_append,
    show (0 : Int) = ((0 : Nat) : Int) from rfl, specEnvSet_l1 xs n hl xs.length k 0 _ (by omega) (by simp only [List.length_append, List.length_singleton]; omega), List.drop_zero]
  unfold tailSpec
  rw [show lesser n xs ++ [(⟨n, m⟩ : S51)] ++ greater n xs = putEnv xs n m from rfl,
    specEnvOk_is 1048576 (by omega) _ (putEnv_mem hx hn) (by omega) k (by omega), Option.bind_some]
  unfold setEnv
  by_cases c : envOkB (putEnv xs n m) = true
  · rw [if_pos c, if_pos c]
  · rw [if_neg c, if_neg c, Option.bind_some, if_pos (by simp only [List.length_nil]; omega), List.nil_append]

/-! ### lessB -/
theorem bl_cons (a b : UInt8) (x y : List UInt8) : Op.bytesLess (a :: x) (b :: y) = true ↔ a.toNat < b.toNat ∨ (a = b ∧ Op.bytesLess x y = true) := by
  simp [Op.bytesLess, UInt8.lt_iff_toNat_lt]
theorem bl_nil (x : List UInt8) : Op.bytesLess x [] = false := by cases x <;> rfl
theorem bl_irrefl (x : List UInt8) : Op.bytesLess x x = false := by
  induction x with
  | nil => rfl
  | cons a x ih =>
    by_cases h : Op.bytesLess (a :: x) (a :: x) = true
    · rw [bl_cons] at h
      rcases h with h | h
      · omega
      · rw [ih] at h; exact absurd h.2 (by simp)
    · simpa using h
theorem bl_trans : ∀ x y z : List UInt8, Op.bytesLess x y = true → Op.bytesLess y z = true → Op.bytesLess x z = true
  | x, y, [], _, h => by rw [bl_nil] at h; cases h
  | x, [], c :: z, h, _ => by rw [bl_nil] at h; cases h
  | [], b :: y, c :: z, _, _ => rfl
  | a :: x, b :: y, c :: z, h1, h2 => by
    rw [bl_cons] at h1 h2 ⊢
    rcases h1 with h1 | ⟨rfl, h1⟩
    · rcases h2 with h2 | ⟨rfl, h2⟩
      · left; omega
      · left; exact h1
    · rcases h2 with h2 | ⟨rfl, h2⟩
      · left; exact h2
      · right; exact ⟨rfl, bl_trans x y z h1 h2⟩
theorem bl_total : ∀ x y : List UInt8, Op.bytesLess x y = false → Op.bytesLess y x = false → x = y
  | [], [], _, _ => rfl
  | [], b :: y, h, _ => by cases h
  | a :: x, [], _, h => by cases h
  | a :: x, b :: y, h1, h2 => by
    have n1 : ¬ Op.bytesLess (a :: x) (b :: y) = true := by rw [h1]; simp
    have n2 : ¬ Op.bytesLess (b :: y) (a :: x) = true := by rw [h2]; simp
    rw [bl_cons] at n1 n2
    have e : a = b := UInt8.toNat_inj.1 (by omega)
    subst e
    have m1 : Op.bytesLess x y = false := by by_cases c : Op.bytesLess x y = true; exact absurd (Or.inr ⟨rfl, c⟩) n1; simpa using c
    have m2 : Op.bytesLess y x = false := by by_cases c : Op.bytesLess y x = true; exact absurd (Or.inr ⟨rfl, c⟩) n2; simpa using c
    rw [bl_total x y m1 m2]
theorem lessB_irrefl (a : ByteArray) : lessB a a = false := bl_irrefl _
theorem lessB_trans {a b c : ByteArray} (h : lessB a b = true) (h2 : lessB b c = true) : lessB a c = true := bl_trans _ _ _ h h2
theorem lessB_asymm {a b : ByteArray} (h : lessB a b = true) : lessB b a = false := by
  by_cases c : lessB b a = true
  · have := lessB_trans h c
    rw [lessB_irrefl] at this
    cases this
  · simpa using c
theorem lessB_total {a b : ByteArray} (h : lessB a b = false) (h2 : lessB b a = false) : a = b := toList_eq.1 (bl_total _ _ h h2)
def okV (v : S51) : Bool := varNameB v.f0 && numB v.f1
/-- A list of names that may be. -/
structure Good (xs : List S51) : Prop where
  all : ∀ v ∈ xs, okV v = true
  up : xs.Pairwise fun v w => lessB v.f0 w.f0 = true
theorem envRest_iff (xs : List S51) : ∀ p : Option ByteArray, envRest p xs = true ↔ ((∀ v ∈ xs, okV v = true) ∧ (∀ a, p = some a → ∀ v ∈ xs, lessB a v.f0 = true) ∧ xs.Pairwise fun v w => lessB v.f0 w.f0 = true) := by
  induction xs with
  | nil => intro p; simp [envRest]
  | cons v l ih =>
    intro p
    simp only [envRest, Bool.and_eq_true, ih (some v.f0)]
    constructor
    · rintro ⟨⟨⟨h1, h2⟩, h3⟩, h4, h5, h6⟩
      have h5' := h5 v.f0 rfl
      refine ⟨?_, ?_, ?_⟩
      · intro w hw
        rcases List.mem_cons.1 hw with rfl | hw
        · simp [okV, h1, h2]
        · exact h4 w hw
      · intro a ha w hw
        subst ha
        rcases List.mem_cons.1 hw with rfl | hw
        · exact h3
        · exact lessB_trans h3 (h5' w hw)
      · exact List.pairwise_cons.2 ⟨h5', h6⟩
    · rintro ⟨h1, h2, h3⟩
      have hv := h1 v List.mem_cons_self
      simp only [okV, Bool.and_eq_true] at hv
      obtain ⟨p1, p2⟩ := List.pairwise_cons.1 h3
      refine ⟨⟨hv, ?_⟩, fun w hw => h1 w (List.mem_cons_of_mem _ hw), ?_, p2⟩
      · cases p with
        | none => rfl
        | some a => exact h2 a rfl v List.mem_cons_self
      · intro a ha w hw
        cases ha
        exact p1 w hw
theorem envOkB_iff (xs : List S51) : envOkB xs = true ↔ Good xs ∧ xs.length ≤ 6 := by
  unfold envOkB
  rw [Bool.and_eq_true, envRest_iff, decide_eq_true_eq]
  constructor
  · rintro ⟨⟨h1, _, h3⟩, h4⟩; exact ⟨⟨h1, h3⟩, by omega⟩
  · rintro ⟨h, h4⟩; exact ⟨⟨h.all, by simp, h.up⟩, by omega⟩
theorem putEnv_good {xs : List S51} {n : ByteArray} {m : Int} (h : Good xs) (hn : varNameB n = true) (hm : numB m = true) : Good (putEnv xs n m) := by
  refine ⟨?_, ?_⟩
  · intro v hv
    unfold putEnv at hv
    simp only [List.mem_append, List.mem_singleton] at hv
    rcases hv with (hv | rfl) | hv
    · exact h.all v (List.mem_filter.1 hv).1
    · simp [okV, hn, hm]
    · exact h.all v (List.mem_filter.1 hv).1
  · unfold putEnv
    rw [List.pairwise_append, List.pairwise_append]
    refine ⟨⟨h.up.sublist List.filter_sublist, List.pairwise_singleton _ _, ?_⟩, h.up.sublist List.filter_sublist, ?_⟩
    · intro v hv w hw
      rw [List.mem_singleton] at hw
      subst hw
      exact (List.mem_filter.1 hv).2
    · intro v hv w hw
      have hw2 := (List.mem_filter.1 hw).2
      rw [List.mem_append, List.mem_singleton] at hv
      rcases hv with hv | rfl
      · exact lessB_trans (List.mem_filter.1 hv).2 hw2
      · exact hw2
theorem putEnv_length1 (xs : List S51) (n : ByteArray) (m : Int) : (putEnv xs n m).length ≤ xs.length + 1 := by
  have h : (lesser n xs).length + (greater n xs).length ≤ xs.length := by
    induction xs with
    | nil => simp [lesser, greater]
    | cons v l ih =>
      rw [lesser_cons, greater_cons, List.length_append, List.length_append, List.length_cons]
      by_cases c : lessB v.f0 n = true
      · rw [if_pos c, if_neg (by rw [lessB_asymm c]; simp), List.length_singleton, List.length_nil]; omega
      · by_cases c2 : lessB n v.f0 = true
        · rw [if_neg c, if_pos c2, List.length_singleton, List.length_nil]; omega
        · rw [if_neg c, if_neg c2, List.length_nil]; omega
  unfold putEnv
  simp only [List.length_append, List.length_singleton]
  omega
theorem putEnv_names {xs : List S51} {n : ByteArray} {m : Int} {v : S51} (h : v ∈ putEnv xs n m) : v ∈ xs ∨ v = ⟨n, m⟩ := by
  unfold putEnv at h
  simp only [List.mem_append, List.mem_singleton] at h
  rcases h with (h | h) | h
  · exact .inl (List.mem_filter.1 h).1
  · exact .inr h
  · exact .inl (List.mem_filter.1 h).1
theorem putEnv_self (xs : List S51) (n : ByteArray) (m : Int) : (⟨n, m⟩ : S51) ∈ putEnv xs n m := by simp [putEnv]
theorem putEnv_other {xs : List S51} {n : ByteArray} {m : Int} {v : S51} (h : v ∈ xs) (hn : v.f0 ≠ n) : v ∈ putEnv xs n m := by
  unfold putEnv
  simp only [List.mem_append, List.mem_singleton]
  by_cases c : lessB v.f0 n = true
  · exact .inl (.inl (List.mem_filter.2 ⟨h, c⟩))
  · by_cases c2 : lessB n v.f0 = true
    · exact .inr (List.mem_filter.2 ⟨h, c2⟩)
    · exact absurd (lessB_total (by simpa using c) (by simpa using c2)) hn

/-! ### drawEnv -/
/-- The names that are drawn. -/
def names5 : List ByteArray := [(⟨#[97]⟩ : ByteArray), (⟨#[98]⟩ : ByteArray), (⟨#[110]⟩ : ByteArray), (⟨#[120]⟩ : ByteArray), (⟨#[108, 111, 110, 103]⟩ : ByteArray)]
theorem l03Name_is (b : List Int) (i h : Int) (hi : At b i) : ∃ r i' h', spec_l03Name.f b i h = some (r, i', h') ∧ r ∈ names5 ∧ At b i' := by
  unfold spec_l03Name.f
  obtain ⟨r, i', h', e, hr, ha⟩ := l01Pick_is b i h hi names5 (by simp [names5])
  rw [show ([(⟨#[97]⟩ : ByteArray), (⟨#[98]⟩ : ByteArray), (⟨#[110]⟩ : ByteArray), (⟨#[120]⟩ : ByteArray), (⟨#[108, 111, 110, 103]⟩ : ByteArray)] : List ByteArray) = names5 from rfl, e, Option.bind_some]
  exact ⟨r, i', h', rfl, hr, ha⟩
theorem names5_size {n : ByteArray} (h : n ∈ names5) : n.size ≤ 4 := by
  simp only [names5, List.mem_cons, List.not_mem_nil, or_false] at h
  rcases h with rfl | rfl | rfl | rfl | rfl <;> decide
theorem names5_ok {n : ByteArray} (h : n ∈ names5) : varNameB n = true := by
  simp only [names5, List.mem_cons, List.not_mem_nil, or_false] at h
  rcases h with rfl | rfl | rfl | rfl | rfl <;> decide
/-- What is drawn of names: a list that may be, of the five, at most so long. -/
structure Drawn (c : Nat) (xs : List S51) : Prop where
  good : Good xs
  names : ∀ v ∈ xs, v.f0 ∈ names5
  len : xs.length ≤ c
theorem setEnv_drawn {c : Nat} {xs : List S51} {n : ByteArray} {m : Int} (h : Drawn c xs) (hn : n ∈ names5) : Drawn (c + 1) (setEnv xs n m).1 := by
  unfold setEnv
  by_cases d : envOkB (putEnv xs n m) = true
  · rw [if_pos d]
    refine ⟨((envOkB_iff _).1 d).1, ?_, ?_⟩
    · intro v hv
      rcases putEnv_names hv with h2 | rfl
      · exact h.names v h2
      · exact hn
    · have := putEnv_length1 xs n m
      have := h.len
      show (putEnv xs n m).length ≤ _
      omega
  · rw [if_neg d]
    exact ⟨h.good, h.names, by have := h.len; show xs.length ≤ _; omega⟩
theorem l03Env_l0 (b : List Int) (d : Nat) : ∀ (k i : Nat) (xs : List S51) (j h : Int), 5 - i ≤ d → d + 8000000 < k → i ≤ 4 → Drawn i xs → At b j →
    ∃ q j' h', spec_l03Env.l0 k xs (i : Int) b j h = some (q, j', h') ∧ Drawn 4 q ∧ At b j' := by
  induction d with
  | zero => intro k i xs j h hd hk hi; omega
  | succ d ih =>
    intro k i xs j h hd hk hi hx ha
    obtain ⟨k, rfl⟩ : ∃ m, k = m + 1 := ⟨k - 1, by omega⟩
    obtain ⟨r, j', h', e, hr, ha'⟩ := l01Below_is b j h ha 5 (by omega)
    rw [spec_l03Env.l0, e, Option.bind_some]
    by_cases c : (i : Int) < r
    · obtain ⟨n, j2, h2, e2, hn, ha2⟩ := l03Name_is b j' h' ha'
      obtain ⟨m, j3, h3, e3, hm, ha3⟩ := l01PickInt_is b j2 h2 ha2 [0, 1, 2, 7, (-3), 50, 9999] (by simp)
      have hl := hx.len
      rw [if_pos c]
      show ∃ q j'' h'', ((spec_l03Name.f b j' h').bind _ : Option _) = _ ∧ _
      rw [e2, Option.bind_some]
      show ∃ q j'' h'', ((spec_l01PickInt.f b j2 h2 [0, 1, 2, 7, (-3), 50, 9999]).bind _ : Option _) = _ ∧ _
      rw [e3, Option.bind_some]
      show ∃ q j'' h'', ((spec_EnvSet.f k xs n m).bind _ : Option _) = _ ∧ _
      rw [specEnvSet_is xs n m (fun y hy => by have := names5_size (hx.names y hy); omega) (by have := names5_size hn; omega) (by omega) k (by omega), Option.bind_some, w64_len (n := 5) (by omega) (by omega)]
      exact ih k (i + 1) _ j3 h3 (by omega) (by omega) (by omega) (setEnv_drawn hx hn) ha3
    · rw [if_neg c]
      exact ⟨_, _, _, rfl, ⟨hx.good, hx.names, by have := hx.len; omega⟩, ha'⟩
theorem l03Env_is (b : List Int) (j h : Int) (ha : At b j) (k : Nat) (hk : 8000010 < k) : ∃ q j' h', spec_l03Env.f k b j h = some (q, j', h') ∧ Drawn 4 q ∧ At b j' := by
  unfold spec_l03Env.f
  exact l03Env_l0 b 5 k 0 [] j h (by omega) (by omega) (by omega) ⟨⟨by simp, List.Pairwise.nil⟩, by simp, by simp⟩ ha

/-! ### drawEnvF -/
theorem drawEnv_is (b : List Int) (hb : b.length ≤ 140737488351232) (k : Nat) (hk : 8000010 < k) : ∃ q, spec_DrawEnv.f k b = some q ∧ Drawn 4 q := by
  unfold spec_DrawEnv.f
  obtain ⟨h, e⟩ := l01New_is b hb k (by omega)
  obtain ⟨q, j', h', e2, hq, _⟩ := l03Env_is b 0 h ⟨hb, by omega, by omega⟩ k hk
  rw [e, Option.bind_some]
  refine ⟨q, ?_, hq⟩
  show (spec_l03Env.f k b 0 h).bind _ = _
  rw [e2, Option.bind_some]

/-! ### drawAny -/
/-- A list of few short names. -/
structure Few (xs : List S51) : Prop where
  short : ∀ v ∈ xs, v.f0.size ≤ 5
  len : xs.length ≤ 7
theorem Few.more {xs : List S51} {v : S51} (h : Few xs) (hl : xs.length < 7) (hv : v.f0.size ≤ 5) : Few (xs ++ [v]) := by
  refine ⟨?_, by simp; omega⟩
  intro w hw
  rw [List.mem_append, List.mem_singleton] at hw
  rcases hw with hw | rfl
  · exact h.short w hw
  · exact hv
theorem l03Any_l0 (b : List Int) (d : Nat) : ∀ (k : Nat) (i : Int) (xs : List S51) (j h : Int), 7 - xs.length ≤ d → d < k → Few xs → At b j →
    ∃ q j' h', spec_l03Any.l0 k xs i b j h = some (q, j', h') ∧ Few q ∧ At b j' := by
  induction d with
  | zero =>
    intro k i xs j h hd hk hf ha
    obtain ⟨k, rfl⟩ : ∃ m, k = m + 1 := ⟨k - 1, by omega⟩
    obtain ⟨r, j', h', e, hr, ha'⟩ := l01Below_is b j h ha 2 (by omega)
    rw [spec_l03Any.l0, e, Option.bind_some, if_neg (by show ¬ _ < wrap64 (6 + r); rw [w64 (by omega) (by omega)]; omega)]
    exact ⟨_, _, _, rfl, hf, ha'⟩
  | succ d ih =>
    intro k i xs j h hd hk hf ha
    obtain ⟨k, rfl⟩ : ∃ m, k = m + 1 := ⟨k - 1, by omega⟩
    obtain ⟨r, j', h', e, hr, ha'⟩ := l01Below_is b j h ha 2 (by omega)
    rw [spec_l03Any.l0, e, Option.bind_some]
    by_cases c : (xs.length : Int) < wrap64 (6 + r)
    · have c2 := c
      rw [w64 (by omega) (by omega)] at c2
      have hs : ∀ x : Int, (strOfNums [x]).size = 1 := fun x => str_size [x]
      rw [if_pos c, Option.bind_some, if_pos (by rw [hs]; omega), if_pos (by omega)]
      refine ih k _ _ _ _ (by simp; omega) (by omega) (hf.more (by omega) ?_) ha'
      show ((⟨#[121]⟩ : ByteArray) ++ strOfNums _).size ≤ 5
      rw [ByteArray.size_append, hs]
      show 1 + 1 ≤ 5
      omega
    · rw [if_neg c]
      exact ⟨_, _, _, rfl, hf, ha'⟩
theorem l03Any_is (b : List Int) (j h : Int) (ha : At b j) (k : Nat) (hk : 8000010 < k) : ∃ q j' h', spec_l03Any.f k b j h = some (q, j', h') ∧ Few q ∧ At b j' := by
  unfold spec_l03Any.f
  obtain ⟨q, j1, h1, e1, hq, a1⟩ := l03Env_is b j h ha k hk
  have hl := hq.len
  have fq : Few q := ⟨fun v hv => by have := names5_size (hq.names v hv); omega, by omega⟩
  rw [Option.bind_some, e1, Option.bind_some, if_pos (by show 0 + q.length < _; omega), Option.bind_some, List.nil_append]
  obtain ⟨r, j2, h2, e2, hr, a2⟩ := l01Below_is b j1 h1 a1 10 (by omega)
  show ∃ q' j' h', ((spec_l01Below.f b j1 h1 10).bind _ : Option _) = _ ∧ _
  rw [e2, Option.bind_some]
  by_cases c0 : r = 0
  · rw [if_pos c0]
    obtain ⟨n, j3, h3, e3, hn, a3⟩ := l01Pick_is b j2 h2 a2 [(⟨#[]⟩ : ByteArray), (⟨#[65]⟩ : ByteArray), (⟨#[122, 122]⟩ : ByteArray), (⟨#[97, 98, 99, 100, 101]⟩ : ByteArray)] (by simp)
    show ∃ q' j' h', ((spec_l01Pick.f b j2 h2 [(⟨#[]⟩ : ByteArray), (⟨#[65]⟩ : ByteArray), (⟨#[122, 122]⟩ : ByteArray), (⟨#[97, 98, 99, 100, 101]⟩ : ByteArray)]).bind _ : Option _) = _ ∧ _
    rw [e3, Option.bind_some, if_pos (by show q.length < _; omega)]
    refine ⟨_, _, _, rfl, fq.more (by omega) ?_, a3⟩
    show n.size ≤ 5
    simp only [List.mem_cons, List.not_mem_nil, or_false] at hn
    rcases hn with rfl | rfl | rfl | rfl <;> decide
  · rw [if_neg c0]
    by_cases c1 : r = 1
    · rw [if_pos c1]
      by_cases cl : (q.length : Int) > 0
      · rw [if_pos cl]
        obtain ⟨m, j3, h3, e3, hm, a3⟩ := l01PickInt_is b j2 h2 a2 [(-10000), (-9999), 9999, 10000] (by simp)
        show ∃ q' j' h', ((spec_l01PickInt.f b j2 h2 [(-10000), (-9999), 9999, 10000]).bind _ : Option _) = _ ∧ _
        rw [e3, Option.bind_some, if_pos (by show 0 < (q.length : Int); omega)]
        refine ⟨_, _, _, rfl, ⟨?_, by rw [List.length_set]; show q.length ≤ 7; omega⟩, a3⟩
        intro v hv
        rcases List.mem_or_eq_of_mem_set hv with hv | rfl
        · exact fq.short v hv
        · show (rd_T51 q 0).f0.size ≤ 5
          have := rdI' q 0 (by omega)
          rw [show (0 : Int) = ((0 : Nat) : Int) from rfl, this]
          exact fq.short _ (List.getElem_mem _)
      · rw [if_neg cl]
        exact ⟨_, _, _, rfl, fq, a2⟩
    · rw [if_neg c1]
      by_cases c2 : r = 2
      · rw [if_pos c2]
        exact l03Any_l0 b 7 k 0 q j2 h2 (by omega) (by omega) fq a2
      · rw [if_neg c2]
        exact ⟨_, _, _, rfl, fq, a2⟩

/-! ### envGet -/
/-- Its number, and true; false without one. -/
def envGetL (s : ByteArray) : List S51 → Int × Bool
  | [] => (0, false)
  | v :: l => if v.f0 = s then (v.f1, true) else envGetL s l

/-! ### envGetMem -/
theorem envGet_mem (xs : List S51) (h : xs.Pairwise fun v w => lessB v.f0 w.f0 = true) (v : S51) (hv : v ∈ xs) : envGetL v.f0 xs = (v.f1, true) := by
  induction xs with
  | nil => cases hv
  | cons w l ih =>
    obtain ⟨p1, p2⟩ := List.pairwise_cons.1 h
    rcases List.mem_cons.1 hv with rfl | hv
    · simp [envGetL]
    · have hne : w.f0 ≠ v.f0 := by
        intro e
        have := p1 v hv
        rw [e, lessB_irrefl] at this
        cases this
      rw [envGetL, if_neg hne]
      exact ih p2 hv
theorem envGet_none (xs : List S51) (s : ByteArray) (h : ∀ v ∈ xs, v.f0 ≠ s) : envGetL s xs = (0, false) := by
  induction xs with
  | nil => rfl
  | cons w l ih => rw [envGetL, if_neg (h w List.mem_cons_self)]; exact ih fun v hv => h v (List.mem_cons_of_mem _ hv)

/-! ### implEnvGet -/
theorem implEnvGet_l0 (xs : List S51) (s : ByteArray) (hl : xs.length ≤ 9223372036854775807) (d : Nat) : ∀ (k i : Nat), xs.length - i ≤ d → d < k → impl_EnvGet.l0 k s xs (xs.length : Int) (i : Int) = some (envGetL s (xs.drop i)) := by
  induction d with
  | zero =>
    intro k i hd hk
    obtain ⟨k, rfl⟩ : ∃ m, k = m + 1 := ⟨k - 1, by omega⟩
    rw [impl_EnvGet.l0, if_neg (by omega), List.drop_eq_nil_of_le (by omega)]; rfl
  | succ d ih =>
    intro k i hd hk
    obtain ⟨k, rfl⟩ : ∃ m, k = m + 1 := ⟨k - 1, by omega⟩
    by_cases hi : i < xs.length
    · rw [impl_EnvGet.l0, if_pos (by omega), if_pos (by omega), if_pos (by omega), rdI' xs i hi, w64_len hi hl, ih k (i + 1) (by omega) (by omega), drop_get xs i hi]
      simp only [envGetL]
      by_cases h : xs[i].f0 = s
      · rw [if_pos (toList_eq.2 h), if_pos h]
      · rw [if_neg (fun e => h (toList_eq.1 e)), if_neg h]
    · rw [impl_EnvGet.l0, if_neg (by omega), List.drop_eq_nil_of_le (by omega)]; rfl
theorem implEnvGet_is (xs : List S51) (s : ByteArray) (hl : xs.length ≤ 9223372036854775807) (k : Nat) (hk : xs.length < k) : impl_EnvGet.f k xs s = some (envGetL s xs) := by
  unfold impl_EnvGet.f
  exact implEnvGet_l0 xs s hl xs.length k 0 (by omega) hk

/-! ### within -/
theorem within_is (a b c : Int) : impl_within.f a b c = some (decide (b ≤ a ∧ a ≤ c)) := by
  unfold impl_within.f
  by_cases h : a ≥ b
  · rw [if_pos h]; simp [show b ≤ a from h]
  · rw [if_neg h]; simp [show ¬ b ≤ a from h]

/-! ### isSmall -/
theorem isSmall_is (s : ByteArray) (i : Int) : impl_isSmall.f (bt s i) = some (decide (97 ≤ bt s i ∧ bt s i ≤ 122)) := by
  unfold impl_isSmall.f
  rw [w64_bt, within_is]; rfl

/-! ### implVarName -/
theorem implVarName_l0 (s : ByteArray) (hs : s.size ≤ 140737488351232) (d : Nat) : ∀ (k i : Nat), s.size - i ≤ d → d < k →
    impl_VarName.l0 k s (s.size : Int) (i : Int) = some (((bs s).drop i).all small && decide (1 ≤ (s.size : Int) ∧ (s.size : Int) ≤ 4)) := by
  induction d with
  | zero =>
    intro k i hd hk
    obtain ⟨k, rfl⟩ : ∃ m, k = m + 1 := ⟨k - 1, by omega⟩
    simp only [impl_VarName.l0]
    rw [if_neg (by omega), within_is, bs_drop_nil s i (by omega)]; simp
  | succ d ih =>
    intro k i hd hk
    obtain ⟨k, rfl⟩ : ∃ m, k = m + 1 := ⟨k - 1, by omega⟩
    by_cases hi : i < s.size
    · have e := ih k (i + 1) (by omega) (by omega)
      simp only [impl_VarName.l0]
      rw [if_pos (by omega), if_pos (by omega), if_pos (by omega), isSmall_is, Option.bind_some, w64_succ hi hs, e, bs_drop s i hi]
      simp only [List.all_cons]
      by_cases h1 : 97 ≤ bt s i ∧ bt s i ≤ 122
      · rw [if_pos (by simpa using h1), show small (bt s i) = true from by simp [small]; omega]; simp
      · rw [if_neg (by simpa using h1), show small (bt s i) = false from by simp [small]; omega]; simp
    · simp only [impl_VarName.l0]
      rw [if_neg (by omega), within_is, bs_drop_nil s i (by omega)]; simp
theorem implVarName_is (s : ByteArray) (hs : s.size ≤ 140737488351232) (k : Nat) (hk : s.size < k) : impl_VarName.f k s = some (varNameB s) := by
  unfold impl_VarName.f
  exact implVarName_l0 s hs s.size k 0 (by omega) hk

/-! ### isNum -/
theorem isNum_is (n : Int) : impl_isNum.f n = some (decide (-9999 ≤ n ∧ n ≤ 9999)) := by
  unfold impl_isNum.f
  rw [within_is]; rfl

/-! ### implEnvOk -/
theorem implEnvOk_l0 (B : Nat) (hB : B ≤ 140737488351232) (xs : List S51) (hx : ∀ y ∈ xs, y.f0.size ≤ B) (hl : xs.length ≤ 9223372036854775807) (d : Nat) : ∀ (k i : Nat), xs.length - i ≤ d → d + B < k →
    impl_EnvOk.l0 k xs xs (xs.length : Int) (i : Int) = some (envRest (ahead xs i) (xs.drop i) && decide ((xs.length : Int) ≤ 6)) := by
  induction d with
  | zero =>
    intro k i hd hk
    obtain ⟨k, rfl⟩ : ∃ m, k = m + 1 := ⟨k - 1, by omega⟩
    rw [impl_EnvOk.l0, if_neg (by omega), List.drop_eq_nil_of_le (by omega)]; simp [envRest]
  | succ d ih =>
    intro k i hd hk
    obtain ⟨k, rfl⟩ : ∃ m, k = m + 1 := ⟨k - 1, by omega⟩
    by_cases hi : i < xs.length
    · have hs : xs[i].f0.size ≤ B := hx _ (List.getElem_mem hi)
      have e := ih k (i + 1) (by omega) (by omega)
      rw [ahead_succ xs i hi] at e
      rw [impl_EnvOk.l0, if_pos (by omega), if_pos (by omega), if_pos (by omega), rdI' xs i hi, implVarName_is _ (by omega) k (by omega), Option.bind_some, w64_len hi hl, e, drop_get xs i hi]
      simp only [envRest]
      by_cases h1 : varNameB xs[i].f0 = true
      · rw [if_pos h1, isNum_is, Option.bind_some, h1, show decide (-9999 ≤ xs[i].f1 ∧ xs[i].f1 ≤ 9999) = numB xs[i].f1 from rfl]
        by_cases h2 : numB xs[i].f1 = true
        · rw [if_pos h2, h2]
          by_cases h3 : (i : Int) > 0
          · have e2 : wrap64 ((i : Int) - 1) = ((i - 1 : Nat) : Int) := by rw [w64 (by omega) (by omega)]; omega
            rw [if_pos h3, e2, if_pos (by omega), if_pos (by omega), rdI' xs (i - 1) (by omega)]
            have ha : ahead xs i = some xs[i - 1].f0 := by
              unfold ahead
              rw [if_neg (by omega)]
              simp [List.getD, List.getElem?_eq_getElem (show i - 1 < xs.length by omega)]
            rw [ha, show Op.bytesLess xs[i - 1].f0.toList xs[i].f0.toList = lessB xs[i - 1].f0 xs[i].f0 from rfl]
            by_cases h4 : lessB xs[i - 1].f0 xs[i].f0 = true
            · rw [if_pos h4]; simp [h4]
            · rw [if_neg h4]; simp [h4]
          · rw [if_neg h3]
            have ha : ahead xs i = none := by unfold ahead; rw [if_pos (by omega)]
            rw [ha]; simp
        · rw [if_neg h2]; simp [h2]
      · rw [if_neg h1]; simp [h1]
    · rw [impl_EnvOk.l0, if_neg (by omega), List.drop_eq_nil_of_le (by omega)]; simp [envRest]
theorem implEnvOk_is (B : Nat) (hB : B ≤ 140737488351232) (xs : List S51) (hx : ∀ y ∈ xs, y.f0.size ≤ B) (hl : xs.length ≤ 9223372036854775807) (k : Nat) (hk : xs.length + B < k) : impl_EnvOk.f k xs = some (envOkB xs) := by
  unfold impl_EnvOk.f
  exact implEnvOk_l0 B hB xs hx hl xs.length k 0 (by omega) hk

/-! ### lawsStrRd -/
theorem rdStr (xs : List ByteArray) (i : Nat) (h : i < xs.length) : rdOf ByteArray.empty xs (i : Int) = xs[i] := by simp [rdOf, List.getD, h]

/-! ### envOnly -/
theorem l03In_l0 (ns : List ByteArray) (v : ByteArray) (hl : ns.length ≤ 9223372036854775807) (d : Nat) : ∀ (k i : Nat), ns.length - i ≤ d → d < k → spec_l03In.l0 k ns v (i : Int) = some (impl_EnvOnly.has (ns.drop i) v) := by
  induction d with
  | zero =>
    intro k i hd hk
    obtain ⟨k, rfl⟩ : ∃ m, k = m + 1 := ⟨k - 1, by omega⟩
    rw [spec_l03In.l0, if_neg (by omega), List.drop_eq_nil_of_le (by omega)]; rfl
  | succ d ih =>
    intro k i hd hk
    obtain ⟨k, rfl⟩ : ∃ m, k = m + 1 := ⟨k - 1, by omega⟩
    by_cases hi : i < ns.length
    · rw [spec_l03In.l0, if_pos (by omega), if_pos (by omega), rdStr ns i hi, w64_len hi hl, ih k (i + 1) (by omega) (by omega), drop_get ns i hi]
      unfold impl_EnvOnly.has
      rw [List.any_cons]
      by_cases h : ns[i].toList = v.toList
      · rw [if_pos h, h]; simp
      · rw [if_neg h, show (v.toList == ns[i].toList) = false from by simpa using fun e => h e.symm, Bool.false_or]
    · rw [spec_l03In.l0, if_neg (by omega), List.drop_eq_nil_of_le (by omega)]; rfl
theorem l03In_is (ns : List ByteArray) (v : ByteArray) (hl : ns.length ≤ 9223372036854775807) (k : Nat) (hk : ns.length < k) : spec_l03In.f k ns v = some (impl_EnvOnly.has ns v) := by
  unfold spec_l03In.f
  exact l03In_l0 ns v hl ns.length k 0 (by omega) hk
def only (ns : List ByteArray) (xs : List S51) : List S51 := xs.filter fun x => impl_EnvOnly.has ns x.f0
theorem only_length (ns : List ByteArray) (xs : List S51) : (only ns xs).length ≤ xs.length := List.length_filter_le _ _
theorem specEnvOnly_l0 (xs : List S51) (ns : List ByteArray) (hl : xs.length ≤ 1048576) (hn : ns.length ≤ 1048576) (d : Nat) : ∀ (k i : Nat) (out : List S51), xs.length - i ≤ d → d + 1048580 < k → out.length ≤ i →
    spec_EnvOnly.l0 k xs ns out (i : Int) = some (out ++ only ns (xs.drop i)) := by
  induction d with
  | zero =>
    intro k i out hd hk ho
    obtain ⟨k, rfl⟩ : ∃ m, k = m + 1 := ⟨k - 1, by omega⟩
    rw [spec_EnvOnly.l0, if_neg (by omega), List.drop_eq_nil_of_le (by omega), show only ns [] = [] from rfl, List.append_nil]
  | succ d ih =>
    intro k i out hd hk ho
    obtain ⟨k, rfl⟩ : ∃ m, k = m + 1 := ⟨k - 1, by omega⟩
    by_cases hi : i < xs.length
    · rw [spec_EnvOnly.l0, if_pos (by omega), if_pos (by omega), rdI' xs i hi, l03In_is ns _ (by omega) k (by omega), Option.bind_some, w64_len hi (by omega), drop_get xs i hi]
      by_cases h : impl_EnvOnly.has ns xs[i].f0 = true
      · rw [if_pos h, if_pos (by omega), ih k (i + 1) _ (by omega) (by omega) (by simp; omega), List.append_assoc]
        unfold only
        rw [List.filter_cons, if_pos h]
        rfl
      · rw [if_neg h, ih k (i + 1) _ (by omega) (by omega) (by omega)]
        unfold only
        rw [List.filter_cons, if_neg h]
    · rw [spec_EnvOnly.l0, if_neg (by omega), List.drop_eq_nil_of_le (by omega), show only ns [] = [] from rfl, List.append_nil]
theorem specEnvOnly_is (xs : List S51) (ns : List ByteArray) (hl : xs.length ≤ 1048576) (hn : ns.length ≤ 1048576) (k : Nat) (hk : 3000000 < k) : spec_EnvOnly.f k xs ns = some (only ns xs) := by
  unfold spec_EnvOnly.f
  exact specEnvOnly_l0 xs ns hl hn xs.length k 0 [] (by omega) (by omega) (by simp)
theorem implEnvOnly_is (xs : List S51) (ns : List ByteArray) (hl : xs.length ≤ 1048576) : impl_EnvOnly.f xs ns = some (only ns xs) := by
  unfold impl_EnvOnly.f impl_copyEnv.f
  rw [Option.bind_some, if_pos (by simp only [List.length_nil]; omega), Option.bind_some, List.nil_append]
  unfold only
  congr 1
  refine List.filter_congr fun x _ => ?_
  rw [Bool.not_not]

/-! ### sameVars -/
theorem sameVars_l0 (xs : List S51) (hl : xs.length ≤ 9223372036854775807) (d : Nat) : ∀ (k i : Nat), xs.length - i ≤ d → d < k → laws_sameVars.l0 k xs xs (i : Int) = some true := by
  induction d with
  | zero =>
    intro k i hd hk
    obtain ⟨k, rfl⟩ : ∃ m, k = m + 1 := ⟨k - 1, by omega⟩
    rw [laws_sameVars.l0, if_neg (by omega)]
  | succ d ih =>
    intro k i hd hk
    obtain ⟨k, rfl⟩ : ∃ m, k = m + 1 := ⟨k - 1, by omega⟩
    by_cases hi : i < xs.length
    · rw [laws_sameVars.l0, if_pos (by omega), if_pos (by omega), if_pos (by omega), if_neg (by simp), w64_len hi hl]
      exact ih k (i + 1) (by omega) (by omega)
    · rw [laws_sameVars.l0, if_neg (by omega)]
theorem sameVars_self (xs : List S51) (hl : xs.length ≤ 9223372036854775807) (k : Nat) (hk : xs.length < k) : laws_sameVars.f k xs xs = some true := by
  unfold laws_sameVars.f
  rw [if_pos rfl]
  exact sameVars_l0 xs hl xs.length k 0 (by omega) hk

/-! ### FnEnvOnly -/
theorem drawEnvOnly_l0 (b : List Int) (d : Nat) : ∀ (k i : Nat) (ns : List ByteArray) (j h : Int), 4 - i ≤ d → d + 8000011 < k → i ≤ 3 → ns.length = i → At b j →
    ∃ q ms, spec_DrawEnvOnly.l0 k ns (i : Int) b j h = some (q, ms) ∧ Few q ∧ ms.length ≤ 4 := by
  induction d with
  | zero => intro k i ns j h hd hk hi; omega
  | succ d ih =>
    intro k i ns j h hd hk hi hl ha
    obtain ⟨k, rfl⟩ : ∃ m, k = m + 1 := ⟨k - 1, by omega⟩
    obtain ⟨r, j', h', e, hr, ha'⟩ := l01Below_is b j h ha 4 (by omega)
    rw [spec_DrawEnvOnly.l0, e, Option.bind_some]
    by_cases c : (i : Int) < r
    · obtain ⟨n, j2, h2, e2, hn, ha2⟩ := l03Name_is b j' h' ha'
      rw [if_pos c]
      show ∃ q ms, ((spec_l03Name.f b j' h').bind _ : Option _) = _ ∧ _
      rw [e2, Option.bind_some, if_pos (by omega), w64_len (n := 4) (by omega) (by omega)]
      exact ih k (i + 1) _ j2 h2 (by omega) (by omega) (by omega) (by simp; omega) ha2
    · obtain ⟨q, j2, h2, e2, hq, ha2⟩ := l03Any_is b j' h' ha' k (by omega)
      rw [if_neg c]
      show ∃ q ms, ((spec_l03Any.f k b j' h').bind _ : Option _) = _ ∧ _
      rw [e2, Option.bind_some]
      exact ⟨q, ns, rfl, hq, by omega⟩
theorem drawEnvOnly_is (b : List Int) (hb : b.length ≤ 140737488351232) (k : Nat) (hk : 8000020 < k) : ∃ q ms, spec_DrawEnvOnly.f k b = some (q, ms) ∧ Few q ∧ ms.length ≤ 4 := by
  unfold spec_DrawEnvOnly.f
  obtain ⟨h, e⟩ := l01New_is b hb k (by omega)
  rw [e, Option.bind_some]
  exact drawEnvOnly_l0 b 4 k 0 [] 0 h (by omega) (by omega) (by omega) rfl ⟨hb, by omega, by omega⟩
theorem lawsHas_l0 (ns : List ByteArray) (v : ByteArray) (hl : ns.length ≤ 9223372036854775807) (d : Nat) : ∀ (k i : Nat), ns.length - i ≤ d → d < k → laws_has.l0 k ns v (i : Int) = some (impl_EnvOnly.has (ns.drop i) v) := by
  induction d with
  | zero =>
    intro k i hd hk
    obtain ⟨k, rfl⟩ : ∃ m, k = m + 1 := ⟨k - 1, by omega⟩
    rw [laws_has.l0, if_neg (by omega), List.drop_eq_nil_of_le (by omega)]; rfl
  | succ d ih =>
    intro k i hd hk
    obtain ⟨k, rfl⟩ : ∃ m, k = m + 1 := ⟨k - 1, by omega⟩
    by_cases hi : i < ns.length
    · rw [laws_has.l0, if_pos (by omega), if_pos (by omega), rdStr ns i hi, w64_len hi hl, ih k (i + 1) (by omega) (by omega), drop_get ns i hi]
      unfold impl_EnvOnly.has
      rw [List.any_cons]
      by_cases h : ns[i].toList = v.toList
      · rw [if_pos h, h]; simp
      · rw [if_neg h, show (v.toList == ns[i].toList) = false from by simpa using fun e => h e.symm, Bool.false_or]
    · rw [laws_has.l0, if_neg (by omega), List.drop_eq_nil_of_le (by omega)]; rfl
theorem lawsHas_is (ns : List ByteArray) (v : ByteArray) (hl : ns.length ≤ 9223372036854775807) (k : Nat) (hk : ns.length < k) : laws_has.f k ns v = some (impl_EnvOnly.has ns v) := by
  unfold laws_has.f
  exact lawsHas_l0 ns v hl ns.length k 0 (by omega) hk
theorem only_get (ns : List ByteArray) (xs : List S51) (h : xs.Pairwise fun v w => lessB v.f0 w.f0 = true) (v : S51) (hv : v ∈ xs) : envGetL v.f0 (only ns xs) = (if impl_EnvOnly.has ns v.f0 = true then (v.f1, true) else (0, false)) := by
  by_cases c : impl_EnvOnly.has ns v.f0 = true
  · rw [if_pos c]
    exact envGet_mem _ (h.sublist List.filter_sublist) v (List.mem_filter.2 ⟨hv, c⟩)
  · rw [if_neg c]
    refine envGet_none _ _ fun w hw e => c ?_
    have := (List.mem_filter.1 hw).2
    rwa [e] at this
theorem only_all (xs : List S51) : only (xs.map fun v => v.f0) xs = xs := by
  unfold only
  rw [List.filter_eq_self]
  intro v hv
  unfold impl_EnvOnly.has
  rw [List.any_eq_true]
  exact ⟨v.f0, List.mem_map.2 ⟨v, hv, rfl⟩, by simp⟩
theorem only_none (xs : List S51) : only [] xs = [] := by
  unfold only
  rw [List.filter_eq_nil_iff]
  intro v _
  show ¬ impl_EnvOnly.has [] v.f0 = true
  simp [impl_EnvOnly.has]
theorem only_ok {ns : List ByteArray} {xs : List S51} (h : Drawn 4 xs) : envOkB (only ns xs) = true :=
  (envOkB_iff _).2 ⟨⟨fun v hv => h.good.all v (List.mem_filter.1 hv).1, h.good.up.sublist List.filter_sublist⟩, by have := only_length ns xs; have := h.len; omega⟩
theorem fnEnvOnly_l1 (xs ys : List S51) (ns : List ByteArray) (h : Drawn 4 xs) (hy : ys.length ≤ 7) (hn : ns.length ≤ 4) (d : Nat) : ∀ (k i : Nat) (all : List ByteArray), xs.length - i ≤ d → d + 4000000 < k → i ≤ xs.length → all = (xs.take i).map (fun v => v.f0) →
    laws_FnEnvOnly.l1 k xs ys ns (only ns xs) all (i : Int) = some true := by
  have hlen := h.len
  have hol := only_length ns xs
  induction d with
  | zero =>
    intro k i all hd hk hi he
    obtain ⟨k, rfl⟩ : ∃ q, k = q + 1 := ⟨k - 1, by omega⟩
    have h2 : ∀ y ∈ only ns xs, y.f0.size ≤ 1048576 := fun y hy => by have := names5_size (h.names y (List.mem_filter.1 hy).1); omega
    have hyl := only_length ns ys
    rw [List.take_of_length_le (by omega)] at he
    rw [laws_FnEnvOnly.l1, if_neg (by omega), implEnvOnly_is xs all (by omega), Option.bind_some, he, only_all, sameVars_self xs (by omega) k (by omega), Option.bind_some, if_pos rfl, implEnvOnly_is xs [] (by omega), Option.bind_some, only_none, if_pos (show ((([] : List S51).length : Int)) = 0 from rfl),
      implEnvOk_is 1048576 (by omega) _ h2 (by omega) k (by omega), Option.bind_some, if_pos (only_ok h), implEnvOnly_is ys ns (by omega), Option.bind_some, specEnvOnly_is ys ns (by omega) (by omega) k (by omega), Option.bind_some,
      sameVars_self _ (by omega) k (by omega), Option.bind_some]
  | succ d ih =>
    intro k i all hd hk hi he
    by_cases hi2 : i < xs.length
    · obtain ⟨k, rfl⟩ : ∃ q, k = q + 1 := ⟨k - 1, by omega⟩
      have hal : all.length ≤ 4 := by rw [he, List.length_map, List.length_take]; omega
      rw [laws_FnEnvOnly.l1, if_pos (by omega), if_pos (by omega), if_pos (by omega), rdI' xs i hi2, w64_len hi2 (by omega)]
      refine ih k (i + 1) _ (by omega) (by omega) (by omega) ?_
      rw [List.take_add_one, List.getElem?_eq_getElem hi2, List.map_append, he]
      rfl
    · exact ih k i all (by omega) (by omega) hi he
theorem fnEnvOnly_l0 (xs ys : List S51) (ns : List ByteArray) (h : Drawn 4 xs) (hy : ys.length ≤ 7) (hn : ns.length ≤ 4) (d : Nat) : ∀ (k i : Nat), xs.length - i ≤ d → d + 5000000 < k → i ≤ xs.length →
    laws_FnEnvOnly.l0 k xs ys ns (only ns xs) (i : Int) = some true := by
  have hlen := h.len
  have hol := only_length ns xs
  induction d with
  | zero =>
    intro k i hd hk hi
    obtain ⟨k, rfl⟩ : ∃ q, k = q + 1 := ⟨k - 1, by omega⟩
    rw [laws_FnEnvOnly.l0, if_neg (by omega)]
    exact fnEnvOnly_l1 xs ys ns h hy hn xs.length k 0 [] (by omega) (by omega) (by omega) rfl
  | succ d ih =>
    intro k i hd hk hi
    by_cases hi2 : i < xs.length
    · obtain ⟨k, rfl⟩ : ∃ q, k = q + 1 := ⟨k - 1, by omega⟩
      rw [laws_FnEnvOnly.l0, if_pos (by omega), if_pos (by omega), rdI' xs i hi2, implEnvGet_is _ _ (by omega) k (by omega), Option.bind_some, lawsHas_is ns _ (by omega) k (by omega), Option.bind_some, only_get ns xs h.good.up xs[i] (List.getElem_mem hi2), w64_len hi2 (by omega),
        ih k (i + 1) (by omega) (by omega) (by omega)]
      by_cases c : impl_EnvOnly.has ns xs[i].f0 = true
      · rw [if_pos c, c]
        show (if (true != true) = true then _ else (if true = true then (if xs[i].f1 = xs[i].f1 then _ else _) else _)) = _
        rw [if_neg (by simp), if_pos rfl, if_pos rfl]
      · rw [if_neg c, show impl_EnvOnly.has ns xs[i].f0 = false from by simpa using c]
        show (if (false != false) = true then _ else (if false = true then _ else _)) = _
        rw [if_neg (by simp), if_neg (by simp)]
    · exact ih k i (by omega) (by omega) hi
theorem FnEnvOnly : laws_FnEnvOnly.Pure := by
  intro l hl hsz hw
  refine ⟨100000000, ?_⟩
  unfold laws_FnEnvOnly.f laws_big.f
  rw [Option.bind_some]
  by_cases hbig : decide ((l.length : Int) > 1048576) = true
  · rw [if_pos hbig]
  rw [if_neg hbig]
  have hb : l.length ≤ 140737488351232 := by omega
  obtain ⟨xs, e1, h1⟩ := drawEnv_is l hb 100000000 (by omega)
  obtain ⟨ys, ns, e2, hy, hn⟩ := drawEnvOnly_is l hb 100000000 (by omega)
  have hxl := h1.len
  rw [e1, Option.bind_some, e2, Option.bind_some]
  show (impl_EnvOnly.f xs ns).bind _ = _
  rw [implEnvOnly_is xs ns (by omega), Option.bind_some]
  exact fnEnvOnly_l0 xs ys ns h1 hy.len hn xs.length 100000000 0 (by omega) (by omega) (by omega)

end Go.Proofs.Ytigibdkgimgknaa.Pure
