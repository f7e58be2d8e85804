/- FnEnvTexts without Go: drawn names that are not the same are not told the same. -/
import Derived.Test.YtnmhggdaccbbfaaDoorMFnEnvTextsx5
import Derived.Lib.ItoaLen
import Derived.Lib.ItoaNum
import Derived.Lib.Join
set_option linter.unusedVariables false
set_option linter.unusedSimpArgs false
set_option maxHeartbeats 400000
namespace Go.Proofs.YtnmhggdaccbbfaaDoor.Pure
open Go.RowKit Go.Proofs.YtnmhggdaccbbfaaDoor.MFnEnvTexts Go.Proofs.YtnmhggdaccbbfaaDoorW.PrintWords Go.Proofs.YtnmhggdaccbbfaaDoorW.PrintLast
/-! ### base -/
theorem w64 {n : Int} (h : -9223372036854775808 ≤ n) (h' : n ≤ 9223372036854775807) : wrap64 n = n := by unfold wrap64; omega
theorem w64_succ {i m : Nat} (h : i < m) (hm : m ≤ 140737488351232) : wrap64 ((i : Int) + 1) = ((i + 1 : Nat) : Int) := by
  rw [w64 (by omega) (by omega)]; omega
theorem w64_bt (s : ByteArray) (i : Int) : wrap64 (bt s i) = bt s i := by
  have := bt_range s i
  exact w64 (by omega) (by omega)
/-- A string's bytes as numbers. -/
def bs (s : ByteArray) : List Int := s.data.toList.map fun b => (b.toNat : Int)
theorem bs_length (s : ByteArray) : (bs s).length = s.size := by simp [bs]
theorem bs_get (s : ByteArray) (i : Nat) (h : i < s.size) : (bs s)[i]? = some (bt s i) := by
  have h2 : i < s.data.toList.length := by simpa using h
  simp only [bs, List.getElem?_map, List.getElem?_eq_getElem h2, Option.map_some]
  unfold bt
  rw [dif_pos (by simpa using h)]
  rfl
theorem bs_drop (s : ByteArray) (i : Nat) (h : i < s.size) : (bs s).drop i = bt s i :: (bs s).drop (i + 1) := by
  have h2 : i < (bs s).length := by rw [bs_length]; exact h
  rw [List.drop_eq_getElem_cons h2]
  congr 1
  have := bs_get s i h
  rw [List.getElem?_eq_getElem h2] at this
  exact Option.some.inj this
theorem bs_drop_nil (s : ByteArray) (i : Nat) (h : s.size ≤ i) : (bs s).drop i = [] := List.drop_eq_nil_of_le (by rw [bs_length]; exact h)
theorem bs_range {s : ByteArray} {c : Int} (h : c ∈ bs s) : 0 ≤ c ∧ c ≤ 255 := by
  simp only [bs, List.mem_map] at h
  obtain ⟨b, _, rfl⟩ := h
  have := b.toNat_lt
  omega
theorem bs_inj {s t : ByteArray} (h : bs s = bs t) : s = t := by
  have hd : s.data.toList = t.data.toList := by
    refine List.map_inj_right (f := fun b : UInt8 => (b.toNat : Int)) (fun a b hab => ?_) |>.1 h
    have hab2 : (a.toNat : Int) = b.toNat := hab
    exact UInt8.toNat_inj.1 (by omega)
  cases s; cases t
  simp only [ByteArray.mk.injEq]
  exact Array.toList_inj.1 hd
theorem bs_str {xs : List Int} (h : ∀ x ∈ xs, 0 ≤ x ∧ x ≤ 255) : bs (strOfNums xs) = xs := by
  unfold bs strOfNums
  simp only [List.map_map]
  conv => rhs; rw [← List.map_id xs]
  refine List.map_congr_left fun x hx => ?_
  have := h x hx
  simp only [Function.comp, id, UInt8.toNat_ofNat']
  omega
theorem str_bs (s : ByteArray) : strOfNums (bs s) = s := bs_inj (bs_str fun _ hx => bs_range hx)
theorem str_size (xs : List Int) : (strOfNums xs).size = xs.length := by
  show ((xs.map fun n => UInt8.ofNat n.toNat).toArray).size = xs.length
  simp
theorem bs_append (s t : ByteArray) : bs (s ++ t) = bs s ++ bs t := by
  simp [bs]
theorem bs_empty : bs (⟨#[]⟩ : ByteArray) = [] := rfl
theorem bt_str {xs : List Int} (h : ∀ x ∈ xs, 0 ≤ x ∧ x ≤ 255) (i : Nat) (hi : i < xs.length) : bt (strOfNums xs) i = rd xs i := by
  have h1 := bs_get (strOfNums xs) i (by rw [str_size]; exact hi)
  rw [bs_str h] at h1
  unfold rd
  rw [List.getD_eq_getElem?_getD, Int.toNat_natCast, h1]
  rfl
theorem bt_bs (s : ByteArray) (i : Int) : bt s i = rd (bs s) i := by
  unfold rd
  rw [List.getD_eq_getElem?_getD]
  by_cases h : i.toNat < s.size
  · have := bs_get s i.toNat h
    rw [this]
    unfold bt
    simp only [Int.toNat_natCast]
    rw [dif_pos h]
    rfl
  · rw [List.getElem?_eq_none (by rw [bs_length]; omega)]
    unfold bt
    rw [dif_neg h]
    rfl
theorem toList_eq {s t : ByteArray} : s.toList = t.toList ↔ s = t := by
  rw [ByteArray.toList_eq, ByteArray.toList_eq]
  constructor
  · intro h; cases s; cases t; simpa [Array.toList_inj] using h
  · rintro rfl; rfl
theorem tdiv_e {n : Int} (h : 0 ≤ n) (m : Int) : Int.tdiv n m = n / m := Int.tdiv_eq_ediv_of_nonneg h
theorem tmod_e {n : Int} (h : 0 ≤ n) (m : Int) : Int.tmod n m = n % m := Int.tmod_eq_emod_of_nonneg h

/-! ### lists -/
theorem drop_get {α : Type} (xs : List α) (i : Nat) (h : i < xs.length) : xs.drop i = xs[i] :: xs.drop (i + 1) := List.drop_eq_getElem_cons h
theorem w64_len {i n : Nat} (h : i < n) (hn : n ≤ 9223372036854775807) : wrap64 ((i : Int) + 1) = ((i + 1 : Nat) : Int) := by
  rw [w64 (by omega) (by omega)]; omega
theorem take_set {α : Type} (acc : List α) (i : Nat) (v : α) (h : i < acc.length) : (acc.set i v).take (i + 1) = acc.take i ++ [v] := by
  rw [List.take_add_one, List.getElem?_set_self h, List.take_set_of_le (Nat.le_refl i)]; rfl

/-! ### draw -/
/-! what is drawn: the cursor stays within the code; each answer within its bounds -/
theorem and255_range (x : Int) : 0 ≤ Go.bits .and .i64 x 255 ∧ Go.bits .and .i64 x 255 ≤ 255 := by
  have h : Go.bits .and .i64 x 255 = IntKind.i64.wrap (((BitVec.ofInt 64 x) &&& (BitVec.ofInt 64 255)).toNat : Int) := rfl
  have h2 : ((BitVec.ofInt 64 x) &&& (BitVec.ofInt 64 255)).toNat ≤ 255 := by
    rw [BitVec.toNat_and, show (BitVec.ofInt 64 255).toNat = 255 from by decide]
    exact Nat.and_le_right
  rw [h, IntKind.wrap_i64]
  omega
theorem l01New_l0 (b : List Int) (hb : b.length ≤ 140737488351232) (d : Nat) : ∀ (k i : Nat) (h : Int), 4000 - i ≤ d → d < k → i ≤ 4000 → ∃ h', spec_l01New.l0 k b h (i : Int) = some (b, 0, h') := by
  induction d with
  | zero =>
    intro k i h hd hk hi
    obtain ⟨k, rfl⟩ : ∃ m, k = m + 1 := ⟨k - 1, by omega⟩
    rw [spec_l01New.l0]
    by_cases c : (i : Int) < (b.length : Int)
    · rw [if_pos c, if_neg (by omega)]; exact ⟨_, rfl⟩
    · rw [if_neg c]; exact ⟨_, rfl⟩
  | succ d ih =>
    intro k i h hd hk hi
    obtain ⟨k, rfl⟩ : ∃ m, k = m + 1 := ⟨k - 1, by omega⟩
    rw [spec_l01New.l0]
    by_cases c : (i : Int) < (b.length : Int)
    · rw [if_pos c]
      by_cases c2 : (i : Int) < 4000
      · rw [if_pos c2, if_pos (by omega), w64_len (n := 4000) (by omega) (by omega)]
        exact ih k (i + 1) _ (by omega) (by omega) (by omega)
      · rw [if_neg c2]; exact ⟨_, rfl⟩
    · rw [if_neg c]; exact ⟨_, rfl⟩
theorem l01New_is (b : List Int) (hb : b.length ≤ 140737488351232) (k : Nat) (hk : 4001 ≤ k) : ∃ h', spec_l01New.f k b = some (b, 0, h') := by
  unfold spec_l01New.f
  exact l01New_l0 b hb 4000 k 0 _ (by omega) (by omega) (by omega)
/-- The cursor stands within the code. -/
def At (b : List Int) (i : Int) : Prop := b.length ≤ 140737488351232 ∧ 0 ≤ i ∧ i ≤ (b.length : Int)
theorem l01Byte_is (b : List Int) (i h : Int) (hi : At b i) : ∃ r i' h', spec_l01Byte.f b i h = some (r, i', h') ∧ (0 ≤ r ∧ r ≤ 255) ∧ At b i' := by
  obtain ⟨hb, h0, h1⟩ := hi
  unfold spec_l01Byte.f
  by_cases c : i < (b.length : Int)
  · rw [if_pos c, if_pos h0]
    refine ⟨_, _, _, rfl, and255_range _, hb, ?_⟩
    rw [w64 (by omega) (by omega)]
    omega
  · rw [if_neg c]
    exact ⟨_, _, _, rfl, and255_range _, hb, h0, h1⟩
theorem l01Below_is (b : List Int) (i h : Int) (hi : At b i) (n : Int) (hn : 0 < n) : ∃ r i' h', spec_l01Below.f b i h n = some (r, i', h') ∧ (0 ≤ r ∧ r < n) ∧ At b i' := by
  unfold spec_l01Below.f
  rw [if_neg (by omega)]
  by_cases c : n ≤ 256
  · obtain ⟨r, i', h', e, hr, ha⟩ := l01Byte_is b i h hi
    rw [if_pos c, e, Option.bind_some, if_neg (by omega)]
    refine ⟨_, _, _, rfl, ?_, ha⟩
    show 0 ≤ Int.tmod r n ∧ Int.tmod r n < n
    rw [tmod_e hr.1]
    exact ⟨Int.emod_nonneg _ (by omega), Int.emod_lt_of_pos _ hn⟩
  · obtain ⟨r1, i1, h1, e1, b1, a1⟩ := l01Byte_is b i h hi
    obtain ⟨r2, i2, h2, e2, b2, a2⟩ := l01Byte_is b i1 h1 a1
    obtain ⟨r3, i3, h3, e3, b3, a3⟩ := l01Byte_is b i2 h2 a2
    obtain ⟨r4, i4, h4, e4, b4, a4⟩ := l01Byte_is b i3 h3 a3
    rw [if_neg c, e1, Option.bind_some, e2, Option.bind_some, e3, Option.bind_some, e4, Option.bind_some, if_neg (by omega)]
    refine ⟨_, _, _, rfl, ?_, a4⟩
    show 0 ≤ Int.tmod (wrap64 (wrap64 (wrap64 (wrap64 (r1 * 16777216) + wrap64 (r2 * 65536)) + wrap64 (r3 * 256)) + r4)) n ∧ Int.tmod (wrap64 (wrap64 (wrap64 (wrap64 (r1 * 16777216) + wrap64 (r2 * 65536)) + wrap64 (r3 * 256)) + r4)) n < n
    have hx : 0 ≤ wrap64 (wrap64 (wrap64 (wrap64 (r1 * 16777216) + wrap64 (r2 * 65536)) + wrap64 (r3 * 256)) + r4) := by
      rw [w64 (n := r1 * 16777216) (by omega) (by omega), w64 (n := r2 * 65536) (by omega) (by omega), w64 (n := r3 * 256) (by omega) (by omega), w64 (n := r1 * 16777216 + r2 * 65536) (by omega) (by omega),
        w64 (n := r1 * 16777216 + r2 * 65536 + r3 * 256) (by omega) (by omega), w64 (by omega) (by omega)]
      omega
    rw [tmod_e hx]
    exact ⟨Int.emod_nonneg _ (by omega), Int.emod_lt_of_pos _ hn⟩

/-! ### drawPickS -/
theorem l01Pick_is (b : List Int) (i h : Int) (hi : At b i) (xs : List ByteArray) (hx : xs ≠ []) : ∃ r i' h', spec_l01Pick.f b i h xs = some (r, i', h') ∧ r ∈ xs ∧ At b i' := by
  have hl : 0 < xs.length := List.length_pos_iff.2 hx
  obtain ⟨r, i', h', e, hr, ha⟩ := l01Below_is b i h hi (xs.length : Int) (by omega)
  unfold spec_l01Pick.f
  rw [e, Option.bind_some, if_pos hr.1, if_pos hr.2]
  refine ⟨_, _, _, rfl, ?_, ha⟩
  show rdOf ByteArray.empty xs r ∈ xs
  unfold rdOf
  rw [List.getD_eq_getElem?_getD, List.getElem?_eq_getElem (by omega), Option.getD_some]
  exact List.getElem_mem _

/-! ### drawPick -/
theorem l01PickInt_is (b : List Int) (i h : Int) (hi : At b i) (xs : List Int) (hx : xs ≠ []) : ∃ r i' h', spec_l01PickInt.f b i h xs = some (r, i', h') ∧ r ∈ xs ∧ At b i' := by
  have hl : 0 < xs.length := List.length_pos_iff.2 hx
  obtain ⟨r, i', h', e, hr, ha⟩ := l01Below_is b i h hi (xs.length : Int) (by omega)
  unfold spec_l01PickInt.f
  rw [e, Option.bind_some, if_pos hr.1, if_pos hr.2]
  refine ⟨_, _, _, rfl, ?_, ha⟩
  show rd xs r ∈ xs
  unfold rd
  rw [List.getD_eq_getElem?_getD, List.getElem?_eq_getElem (by omega), Option.getD_some]
  exact List.getElem_mem _

/-! ### rdV -/
theorem rdI' (xs : List S54) (i : Nat) (h : i < xs.length) : rd_T54 xs (i : Int) = xs[i] := by simp [rd_T54, List.getD, h]

/-! ### varNameB -/
/-- 1 to 4 letters a-z. -/
def small (c : Int) : Bool := decide (97 ≤ c ∧ c ≤ 122)
def varNameB (s : ByteArray) : Bool := (bs s).all small && decide (1 ≤ (s.size : Int) ∧ (s.size : Int) ≤ 4)

/-! ### isNumB -/
def numB (n : Int) : Bool := decide (-9999 ≤ n ∧ n ≤ 9999)

/-! ### envOk -/
def lessB (a b : ByteArray) : Bool := Op.bytesLess a.toList b.toList

/-- From a name on, the one ahead of it at hand. -/
def envRest : Option ByteArray → List S54 → Bool
  | _, [] => true
  | p, v :: l => varNameB v.f0 && numB v.f1 && (match p with | none => true | some a => lessB a v.f0) && envRest (some v.f0) l
def envOkB (xs : List S54) : Bool := envRest none xs && decide ((xs.length : Int) ≤ 6)
/-- The name ahead of place i. -/
def ahead (xs : List S54) (i : Nat) : Option ByteArray := if i = 0 then none else some (xs.getD (i - 1) z54).f0
theorem ahead_succ (xs : List S54) (i : Nat) (h : i < xs.length) : ahead xs (i + 1) = some xs[i].f0 := by simp [ahead, List.getD, h]

/-! ### envSet -/
def lesser (n : ByteArray) (xs : List S54) : List S54 := xs.filter fun v => lessB v.f0 n
def greater (n : ByteArray) (xs : List S54) : List S54 := xs.filter fun v => lessB n v.f0
theorem lesser_cons (n : ByteArray) (v : S54) (xs : List S54) : lesser n (v :: xs) = (if lessB v.f0 n = true then [v] else []) ++ lesser n xs := by
  unfold lesser
  rw [List.filter_cons]
  by_cases h : lessB v.f0 n = true
  · rw [if_pos h, if_pos h]; rfl
  · rw [if_neg h, if_neg h]; rfl
theorem greater_cons (n : ByteArray) (v : S54) (xs : List S54) : greater n (v :: xs) = (if lessB n v.f0 = true then [v] else []) ++ greater n xs := by
  unfold greater
  rw [List.filter_cons]
  by_cases h : lessB n v.f0 = true
  · rw [if_pos h, if_pos h]; rfl
  · rw [if_neg h, if_neg h]; rfl
theorem lesser_length (n : ByteArray) (xs : List S54) : (lesser n xs).length ≤ xs.length := List.length_filter_le _ _
theorem greater_length (n : ByteArray) (xs : List S54) : (greater n xs).length ≤ xs.length := List.length_filter_le _ _
/-- The list with a name set, whether it may be or not. -/
def putEnv (xs : List S54) (n : ByteArray) (m : Int) : List S54 := lesser n xs ++ [⟨n, m⟩] ++ greater n xs
def setEnv (xs : List S54) (n : ByteArray) (m : Int) : List S54 × Bool := if envOkB (putEnv xs n m) = true then (putEnv xs n m, true) else (xs, false)
theorem putEnv_mem {B : Nat} {xs : List S54} {n : ByteArray} {m : Int} (hx : ∀ y ∈ xs, y.f0.size ≤ B) (hn : n.size ≤ B) : ∀ y ∈ putEnv xs n m, y.f0.size ≤ B := by
  intro y hy
  unfold putEnv at hy
  simp only [List.mem_append, List.mem_singleton] at hy
  rcases hy with (hy | rfl) | hy
  · exact hx y (List.mem_filter.1 hy).1
  · exact hn
  · exact hx y (List.mem_filter.1 hy).1
theorem putEnv_length (xs : List S54) (n : ByteArray) (m : Int) : (putEnv xs n m).length ≤ 2 * xs.length + 1 := by
  unfold putEnv
  have := lesser_length n xs
  have := greater_length n xs
  simp only [List.length_append, List.length_singleton]
  omega

/-! ### l01In -/
theorem l01In_is (a b c : Int) : spec_l01In.f a b c = some (decide (b ≤ a ∧ a ≤ c)) := by
  unfold spec_l01In.f
  by_cases h : a ≥ b
  · rw [if_pos h]; simp [show b ≤ a from h]
  · rw [if_neg h]; simp [show ¬ b ≤ a from h]

/-! ### specVarName -/
theorem specVarName_l0 (s : ByteArray) (hs : s.size ≤ 140737488351232) (d : Nat) : ∀ (k i : Nat), s.size - i ≤ d → d < k →
    spec_VarName.l0 k s (i : Int) = some (((bs s).drop i).all small && decide (1 ≤ (s.size : Int) ∧ (s.size : Int) ≤ 4)) := by
  induction d with
  | zero =>
    intro k i hd hk
    obtain ⟨k, rfl⟩ : ∃ m, k = m + 1 := ⟨k - 1, by omega⟩
    simp only [spec_VarName.l0]
    rw [if_neg (by omega), l01In_is, bs_drop_nil s i (by omega)]; simp
  | succ d ih =>
    intro k i hd hk
    obtain ⟨k, rfl⟩ : ∃ m, k = m + 1 := ⟨k - 1, by omega⟩
    by_cases hi : i < s.size
    · have e := ih k (i + 1) (by omega) (by omega)
      simp only [spec_VarName.l0]
      rw [if_pos (by omega), if_pos (by omega), w64_succ hi hs, e, bs_drop s i hi]
      simp only [List.all_cons]
      by_cases h1 : bt s i < 97
      · rw [if_pos h1, show small (bt s i) = false from by simp [small]; omega]; simp
      · by_cases h2 : bt s i > 122
        · rw [if_neg h1, if_pos h2, show small (bt s i) = false from by simp [small]; omega]; simp
        · rw [if_neg h1, if_neg h2, show small (bt s i) = true from by simp [small]; omega]; simp
    · simp only [spec_VarName.l0]
      rw [if_neg (by omega), l01In_is, bs_drop_nil s i (by omega)]; simp
theorem specVarName_is (s : ByteArray) (hs : s.size ≤ 140737488351232) (k : Nat) (hk : s.size < k) : spec_VarName.f k s = some (varNameB s) := by
  unfold spec_VarName.f
  exact specVarName_l0 s hs s.size k 0 (by omega) hk

/-! ### specEnvOk -/
theorem specEnvOk_l0 (B : Nat) (hB : B ≤ 140737488351232) (xs : List S54) (hx : ∀ y ∈ xs, y.f0.size ≤ B) (hl : xs.length ≤ 9223372036854775807) (d : Nat) : ∀ (k i : Nat), xs.length - i ≤ d → d + B < k →
    spec_EnvOk.l0 k xs (i : Int) = some (envRest (ahead xs i) (xs.drop i) && decide ((xs.length : Int) ≤ 6)) := by
  induction d with
  | zero =>
    intro k i hd hk
    obtain ⟨k, rfl⟩ : ∃ m, k = m + 1 := ⟨k - 1, by omega⟩
    rw [spec_EnvOk.l0, if_neg (by omega), List.drop_eq_nil_of_le (by omega)]; simp [envRest]
  | succ d ih =>
    intro k i hd hk
    obtain ⟨k, rfl⟩ : ∃ m, k = m + 1 := ⟨k - 1, by omega⟩
    by_cases hi : i < xs.length
    · have hs : xs[i].f0.size ≤ B := hx _ (List.getElem_mem hi)
      have e := ih k (i + 1) (by omega) (by omega)
      rw [ahead_succ xs i hi] at e
      rw [spec_EnvOk.l0, if_pos (by omega), if_pos (by omega), rdI' xs i hi, specVarName_is _ (by omega) k (by omega), Option.bind_some, w64_len hi hl, e, drop_get xs i hi]
      simp only [envRest]
      by_cases h1 : varNameB xs[i].f0 = true
      · rw [if_pos h1, l01In_is, Option.bind_some, h1, show decide (-9999 ≤ xs[i].f1 ∧ xs[i].f1 ≤ 9999) = numB xs[i].f1 from rfl]
        by_cases h2 : numB xs[i].f1 = true
        · rw [if_pos h2, h2]
          by_cases h3 : (i : Int) > 0
          · have e2 : wrap64 ((i : Int) - 1) = ((i - 1 : Nat) : Int) := by rw [w64 (by omega) (by omega)]; omega
            rw [if_pos h3, e2, if_pos (by omega), if_pos (by omega), rdI' xs (i - 1) (by omega)]
            have ha : ahead xs i = some xs[i - 1].f0 := by
              unfold ahead
              rw [if_neg (by omega)]
              simp [List.getD, List.getElem?_eq_getElem (show i - 1 < xs.length by omega)]
            rw [ha, show Op.bytesLess xs[i - 1].f0.toList xs[i].f0.toList = lessB xs[i - 1].f0 xs[i].f0 from rfl]
            by_cases h4 : lessB xs[i - 1].f0 xs[i].f0 = true
            · rw [if_pos h4]; simp [h4]
            · rw [if_neg h4]; simp [h4]
          · rw [if_neg h3]
            have ha : ahead xs i = none := by unfold ahead; rw [if_pos (by omega)]
            rw [ha]; simp
        · rw [if_neg h2]; simp [h2]
      · rw [if_neg h1]; simp [h1]
    · rw [spec_EnvOk.l0, if_neg (by omega), List.drop_eq_nil_of_le (by omega)]; simp [envRest]
theorem specEnvOk_is (B : Nat) (hB : B ≤ 140737488351232) (xs : List S54) (hx : ∀ y ∈ xs, y.f0.size ≤ B) (hl : xs.length ≤ 9223372036854775807) (k : Nat) (hk : xs.length + B < k) : spec_EnvOk.f k xs = some (envOkB xs) := by
  unfold spec_EnvOk.f
  exact specEnvOk_l0 B hB xs hx hl xs.length k 0 (by omega) hk

/-! ### specEnvSet -/
/-- What EnvSet does behind its loops. -/
def tailSpec (k : Nat) (xs : List S54) (out : List S54) : Option (List S54 × Bool) :=
  ((spec_EnvOk.f k out).bind fun t204 => (if t204 = true then (some (out, true)) else ((some (([] : List (S54)) : List (S54))).bind fun y205 => (if y205.length + xs.length < 5864062014805 then (some ((y205 ++ xs), false)) else (none)))))
theorem specEnvSet_l1 (xs : List S54) (n : ByteArray) (hl : xs.length ≤ 1048576) (r : Nat) : ∀ (k i : Nat) (out : List S54), xs.length - i = r → out.length ≤ 1048577 + i →
    spec_EnvSet.l1 (k + r + 1) xs n out (i : Int) = tailSpec k xs (out ++ greater n (xs.drop i)) := by
  induction r with
  | zero =>
    intro k i out hr h1
    rw [show k + 0 + 1 = k + 1 from rfl, spec_EnvSet.l1, if_neg (by omega), List.drop_eq_nil_of_le (by omega), show greater n [] = [] from rfl, List.append_nil]
    rfl
  | succ r ih =>
    intro k i out hr h1
    have hi2 : i < xs.length := by omega
    rw [show k + (r + 1) + 1 = (k + r + 1) + 1 from by omega, spec_EnvSet.l1, if_pos (by omega), if_pos (by omega), rdI' xs i hi2, drop_get xs i hi2, greater_cons, w64_len hi2 (by omega)]
    rw [show Op.bytesLess n.toList xs[i].f0.toList = lessB n xs[i].f0 from rfl]
    by_cases c1 : lessB n xs[i].f0 = true
    · rw [if_pos c1, if_pos c1, if_pos (by omega), ih k (i + 1) _ (by omega) (by simp; omega)]
      simp only [List.append_assoc]
    · rw [if_neg c1, if_neg c1, ih k (i + 1) _ (by omega) (by omega), List.nil_append]
theorem specEnvSet_l0 (xs : List S54) (n : ByteArray) (m : Int) (hl : xs.length ≤ 1048576) (r : Nat) : ∀ (k i : Nat) (out : List S54), xs.length - i = r → out.length ≤ i → i ≤ xs.length →
    spec_EnvSet.l0 (k + r + 1) xs n m out (i : Int) = spec_EnvSet.l1 k xs n (out ++ lesser n (xs.drop i) ++ [⟨n, m⟩]) 0 := by
  induction r with
  | zero =>
    intro k i out hr h1 h2
    rw [show k + 0 + 1 = k + 1 from rfl, spec_EnvSet.l0, if_neg (by omega), if_pos (by omega), List.drop_eq_nil_of_le (by omega), show lesser n [] = [] from rfl, List.append_nil]
  | succ r ih =>
    intro k i out hr h1 h2
    have hi2 : i < xs.length := by omega
    rw [show k + (r + 1) + 1 = (k + r + 1) + 1 from by omega, spec_EnvSet.l0, if_pos (by omega), if_pos (by omega), rdI' xs i hi2, drop_get xs i hi2, lesser_cons, w64_len hi2 (by omega)]
    rw [show Op.bytesLess xs[i].f0.toList n.toList = lessB xs[i].f0 n from rfl]
    by_cases c1 : lessB xs[i].f0 n = true
    · rw [if_pos c1, if_pos c1, if_pos (by omega), ih k (i + 1) _ (by omega) (by simp; omega) (by omega)]
      simp only [List.append_assoc]
    · rw [if_neg c1, if_neg c1, ih k (i + 1) _ (by omega) (by omega) (by omega), List.nil_append]
theorem specEnvSet_is (xs : List S54) (n : ByteArray) (m : Int) (hx : ∀ y ∈ xs, y.f0.size ≤ 1048576) (hn : n.size ≤ 1048576) (hl : xs.length ≤ 1048576) (k : Nat) (hk : 4000000 + 2 * xs.length < k) :
    spec_EnvSet.f k xs n m = some (setEnv xs n m) := by
  obtain ⟨k, rfl⟩ : ∃ q, k = q + xs.length + 1 + xs.length + 1 := ⟨k - 2 * xs.length - 2, by omega⟩
  unfold spec_EnvSet.f
  have h1 := lesser_length n xs
  have h3 := putEnv_length xs n m
  rw [show (0 : Int) = ((0 : Nat) : Int) from rfl, specEnvSet_l0 xs n m hl xs.length _ 0 [] (by omega) (by simp) (by omega), List.drop_zero, List.nil_append,
    show (0 : Int) = ((0 : Nat) : Int) from rfl, specEnvSet_l1 xs n hl xs.length k 0 _ (by omega) (by simp only [List.length_append, List.length_singleton]; omega), List.drop_zero]
  unfold tailSpec
  rw [show lesser n xs ++ [(⟨n, m⟩ : S54)] ++ greater n xs = putEnv xs n m from rfl,
    specEnvOk_is 1048576 (by omega) _ (putEnv_mem hx hn) (by omega) k (by omega), Option.bind_some]
  unfold setEnv
  by_cases c : envOkB (putEnv xs n m) = true
  · rw [if_pos c, if_pos c]
  · rw [if_neg c, if_neg c, Option.bind_some, if_pos (by simp only [List.length_nil]; omega), List.nil_append]

/-! ### lessB -/
theorem bl_cons (a b : UInt8) (x y : List UInt8) : Op.bytesLess (a :: x) (b :: y) = true ↔ a.toNat < b.toNat ∨ (a = b ∧ Op.bytesLess x y = true) := by
  simp [Op.bytesLess, UInt8.lt_iff_toNat_lt]
theorem bl_nil (x : List UInt8) : Op.bytesLess x [] = false := by cases x <;> rfl
theorem bl_irrefl (x : List UInt8) : Op.bytesLess x x = false := by
  induction x with
  | nil => rfl
  | cons a x ih =>
    by_cases h : Op.bytesLess (a :: x) (a :: x) = true
    · rw [bl_cons] at h
      rcases h with h | h
      · omega
      · rw [ih] at h; exact absurd h.2 (by simp)
    · simpa using h
theorem bl_trans : ∀ x y z : List UInt8, Op.bytesLess x y = true → Op.bytesLess y z = true → Op.bytesLess x z = true
  | x, y, [], _, h => by rw [bl_nil] at h; cases h
  | x, [], c :: z, h, _ => by rw [bl_nil] at h; cases h
  | [], b :: y, c :: z, _, _ => rfl
  | a :: x, b :: y, c :: z, h1, h2 => by
    rw [bl_cons] at h1 h2 ⊢
    rcases h1 with h1 | ⟨rfl, h1⟩
    · rcases h2 with h2 | ⟨rfl, h2⟩
      · left; omega
      · left; exact h1
    · rcases h2 with h2 | ⟨rfl, h2⟩
      · left; exact h2
      · right; exact ⟨rfl, bl_trans x y z h1 h2⟩
theorem bl_total : ∀ x y : List UInt8, Op.bytesLess x y = false → Op.bytesLess y x = false → x = y
  | [], [], _, _ => rfl
  | [], b :: y, h, _ => by cases h
  | a :: x, [], _, h => by cases h
  | a :: x, b :: y, h1, h2 => by
    have n1 : ¬ Op.bytesLess (a :: x) (b :: y) = true := by rw [h1]; simp
    have n2 : ¬ Op.bytesLess (b :: y) (a :: x) = true := by rw [h2]; simp
    rw [bl_cons] at n1 n2
    have e : a = b := UInt8.toNat_inj.1 (by omega)
    subst e
    have m1 : Op.bytesLess x y = false := by by_cases c : Op.bytesLess x y = true; exact absurd (Or.inr ⟨rfl, c⟩) n1; simpa using c
    have m2 : Op.bytesLess y x = false := by by_cases c : Op.bytesLess y x = true; exact absurd (Or.inr ⟨rfl, c⟩) n2; simpa using c
    rw [bl_total x y m1 m2]
theorem lessB_irrefl (a : ByteArray) : lessB a a = false := bl_irrefl _
theorem lessB_trans {a b c : ByteArray} (h : lessB a b = true) (h2 : lessB b c = true) : lessB a c = true := bl_trans _ _ _ h h2
theorem lessB_asymm {a b : ByteArray} (h : lessB a b = true) : lessB b a = false := by
  by_cases c : lessB b a = true
  · have := lessB_trans h c
    rw [lessB_irrefl] at this
    cases this
  · simpa using c
theorem lessB_total {a b : ByteArray} (h : lessB a b = false) (h2 : lessB b a = false) : a = b := toList_eq.1 (bl_total _ _ h h2)
def okV (v : S54) : Bool := varNameB v.f0 && numB v.f1
/-- A list of names that may be. -/
structure Good (xs : List S54) : Prop where
  all : ∀ v ∈ xs, okV v = true
  up : xs.Pairwise fun v w => lessB v.f0 w.f0 = true
theorem envRest_iff (xs : List S54) : ∀ p : Option ByteArray, envRest p xs = true ↔ ((∀ v ∈ xs, okV v = true) ∧ (∀ a, p = some a → ∀ v ∈ xs, lessB a v.f0 = true) ∧ xs.Pairwise fun v w => lessB v.f0 w.f0 = true) := by
  induction xs with
  | nil => intro p; simp [envRest]
  | cons v l ih =>
    intro p
    simp only [envRest, Bool.and_eq_true, ih (some v.f0)]
    constructor
    · rintro ⟨⟨⟨h1, h2⟩, h3⟩, h4, h5, h6⟩
      have h5' := h5 v.f0 rfl
      refine ⟨?_, ?_, ?_⟩
      · intro w hw
        rcases List.mem_cons.1 hw with rfl | hw
        · simp [okV, h1, h2]
        · exact h4 w hw
      · intro a ha w hw
        subst ha
        rcases List.mem_cons.1 hw with rfl | hw
        · exact h3
        · exact lessB_trans h3 (h5' w hw)
      · exact List.pairwise_cons.2 ⟨h5', h6⟩
    · rintro ⟨h1, h2, h3⟩
      have hv := h1 v List.mem_cons_self
      simp only [okV, Bool.and_eq_true] at hv
      obtain ⟨p1, p2⟩ := List.pairwise_cons.1 h3
      refine ⟨⟨hv, ?_⟩, fun w hw => h1 w (List.mem_cons_of_mem _ hw), ?_, p2⟩
      · cases p with
        | none => rfl
        | some a => exact h2 a rfl v List.mem_cons_self
      · intro a ha w hw
        cases ha
        exact p1 w hw
theorem envOkB_iff (xs : List S54) : envOkB xs = true ↔ Good xs ∧ xs.length ≤ 6 := by
  unfold envOkB
  rw [Bool.and_eq_true, envRest_iff, decide_eq_true_eq]
  constructor
  · rintro ⟨⟨h1, _, h3⟩, h4⟩; exact ⟨⟨h1, h3⟩, by omega⟩
  · rintro ⟨h, h4⟩; exact ⟨⟨h.all, by simp, h.up⟩, by omega⟩
theorem putEnv_good {xs : List S54} {n : ByteArray} {m : Int} (h : Good xs) (hn : varNameB n = true) (hm : numB m = true) : Good (putEnv xs n m) := by
  refine ⟨?_, ?_⟩
  · intro v hv
    unfold putEnv at hv
    simp only [List.mem_append, List.mem_singleton] at hv
    rcases hv with (hv | rfl) | hv
    · exact h.all v (List.mem_filter.1 hv).1
    · simp [okV, hn, hm]
    · exact h.all v (List.mem_filter.1 hv).1
  · unfold putEnv
    rw [List.pairwise_append, List.pairwise_append]
    refine ⟨⟨h.up.sublist List.filter_sublist, List.pairwise_singleton _ _, ?_⟩, h.up.sublist List.filter_sublist, ?_⟩
    · intro v hv w hw
      rw [List.mem_singleton] at hw
      subst hw
      exact (List.mem_filter.1 hv).2
    · intro v hv w hw
      have hw2 := (List.mem_filter.1 hw).2
      rw [List.mem_append, List.mem_singleton] at hv
      rcases hv with hv | rfl
      · exact lessB_trans (List.mem_filter.1 hv).2 hw2
      · exact hw2
theorem putEnv_length1 (xs : List S54) (n : ByteArray) (m : Int) : (putEnv xs n m).length ≤ xs.length + 1 := by
  have h : (lesser n xs).length + (greater n xs).length ≤ xs.length := by
    induction xs with
    | nil => simp [lesser, greater]
    | cons v l ih =>
      rw [lesser_cons, greater_cons, List.length_append, List.length_append, List.length_cons]
      by_cases c : lessB v.f0 n = true
      · rw [if_pos c, if_neg (by rw [lessB_asymm c]; simp), List.length_singleton, List.length_nil]; omega
      · by_cases c2 : lessB n v.f0 = true
        · rw [if_neg c, if_pos c2, List.length_singleton, List.length_nil]; omega
        · rw [if_neg c, if_neg c2, List.length_nil]; omega
  unfold putEnv
  simp only [List.length_append, List.length_singleton]
  omega
theorem putEnv_names {xs : List S54} {n : ByteArray} {m : Int} {v : S54} (h : v ∈ putEnv xs n m) : v ∈ xs ∨ v = ⟨n, m⟩ := by
  unfold putEnv at h
  simp only [List.mem_append, List.mem_singleton] at h
  rcases h with (h | h) | h
  · exact .inl (List.mem_filter.1 h).1
  · exact .inr h
  · exact .inl (List.mem_filter.1 h).1
theorem putEnv_self (xs : List S54) (n : ByteArray) (m : Int) : (⟨n, m⟩ : S54) ∈ putEnv xs n m := by simp [putEnv]
theorem putEnv_other {xs : List S54} {n : ByteArray} {m : Int} {v : S54} (h : v ∈ xs) (hn : v.f0 ≠ n) : v ∈ putEnv xs n m := by
  unfold putEnv
  simp only [List.mem_append, List.mem_singleton]
  by_cases c : lessB v.f0 n = true
  · exact .inl (.inl (List.mem_filter.2 ⟨h, c⟩))
  · by_cases c2 : lessB n v.f0 = true
    · exact .inr (List.mem_filter.2 ⟨h, c2⟩)
    · exact absurd (lessB_total (by simpa using c) (by simpa using c2)) hn

/-! ### drawEnv -/
/-- The names that are drawn. -/
def names5 : List ByteArray := [(⟨#[97]⟩ : ByteArray), (⟨#[98]⟩ : ByteArray), (⟨#[110]⟩ : ByteArray), (⟨#[120]⟩ : ByteArray), (⟨#[108, 111, 110, 103]⟩ : ByteArray)]
theorem l03Name_is (b : List Int) (i h : Int) (hi : At b i) : ∃ r i' h', spec_l03Name.f b i h = some (r, i', h') ∧ r ∈ names5 ∧ At b i' := by
  unfold spec_l03Name.f
  obtain ⟨r, i', h', e, hr, ha⟩ := l01Pick_is b i h hi names5 (by simp [names5])
  rw [show ([(⟨#[97]⟩ : ByteArray), (⟨#[98]⟩ : ByteArray), (⟨#[110]⟩ : ByteArray), (⟨#[120]⟩ : ByteArray), (⟨#[108, 111, 110, 103]⟩ : ByteArray)] : List ByteArray) = names5 from rfl, e, Option.bind_some]
  exact ⟨r, i', h', rfl, hr, ha⟩
theorem names5_size {n : ByteArray} (h : n ∈ names5) : n.size ≤ 4 := by
  simp only [names5, List.mem_cons, List.not_mem_nil, or_false] at h
  rcases h with rfl | rfl | rfl | rfl | rfl <;> decide
theorem names5_ok {n : ByteArray} (h : n ∈ names5) : varNameB n = true := by
  simp only [names5, List.mem_cons, List.not_mem_nil, or_false] at h
  rcases h with rfl | rfl | rfl | rfl | rfl <;> decide
/-- What is drawn of names: a list that may be, of the five, at most so long. -/
structure Drawn (c : Nat) (xs : List S54) : Prop where
  good : Good xs
  names : ∀ v ∈ xs, v.f0 ∈ names5
  len : xs.length ≤ c
theorem setEnv_drawn {c : Nat} {xs : List S54} {n : ByteArray} {m : Int} (h : Drawn c xs) (hn : n ∈ names5) : Drawn (c + 1) (setEnv xs n m).1 := by
  unfold setEnv
  by_cases d : envOkB (putEnv xs n m) = true
  · rw [if_pos d]
    refine ⟨((envOkB_iff _).1 d).1, ?_, ?_⟩
    · intro v hv
      rcases putEnv_names hv with h2 | rfl
      · exact h.names v h2
      · exact hn
    · have := putEnv_length1 xs n m
      have := h.len
      show (putEnv xs n m).length ≤ _
      omega
  · rw [if_neg d]
    exact ⟨h.good, h.names, by have := h.len; show xs.length ≤ _; omega⟩
theorem l03Env_l0 (b : List Int) (d : Nat) : ∀ (k i : Nat) (xs : List S54) (j h : Int), 5 - i ≤ d → d + 8000000 < k → i ≤ 4 → Drawn i xs → At b j →
    ∃ q j' h', spec_l03Env.l0 k xs (i : Int) b j h = some (q, j', h') ∧ Drawn 4 q ∧ At b j' := by
  induction d with
  | zero => intro k i xs j h hd hk hi; omega
  | succ d ih =>
    intro k i xs j h hd hk hi hx ha
    obtain ⟨k, rfl⟩ : ∃ m, k = m + 1 := ⟨k - 1, by omega⟩
    obtain ⟨r, j', h', e, hr, ha'⟩ := l01Below_is b j h ha 5 (by omega)
    rw [spec_l03Env.l0, e, Option.bind_some]
    by_cases c : (i : Int) < r
    · obtain ⟨n, j2, h2, e2, hn, ha2⟩ := l03Name_is b j' h' ha'
      obtain ⟨m, j3, h3, e3, hm, ha3⟩ := l01PickInt_is b j2 h2 ha2 [0, 1, 2, 7, (-3), 50, 9999] (by simp)
      have hl := hx.len
      rw [if_pos c]
      show ∃ q j'' h'', ((spec_l03Name.f b j' h').bind _ : Option _) = _ ∧ _
      rw [e2, Option.bind_some]
      show ∃ q j'' h'', ((spec_l01PickInt.f b j2 h2 [0, 1, 2, 7, (-3), 50, 9999]).bind _ : Option _) = _ ∧ _
      rw [e3, Option.bind_some]
      show ∃ q j'' h'', ((spec_EnvSet.f k xs n m).bind _ : Option _) = _ ∧ _
      rw [specEnvSet_is xs n m (fun y hy => by have := names5_size (hx.names y hy); omega) (by have := names5_size hn; omega) (by omega) k (by omega), Option.bind_some, w64_len (n := 5) (by omega) (by omega)]
      exact ih k (i + 1) _ j3 h3 (by omega) (by omega) (by omega) (setEnv_drawn hx hn) ha3
    · rw [if_neg c]
      exact ⟨_, _, _, rfl, ⟨hx.good, hx.names, by have := hx.len; omega⟩, ha'⟩
theorem l03Env_is (b : List Int) (j h : Int) (ha : At b j) (k : Nat) (hk : 8000010 < k) : ∃ q j' h', spec_l03Env.f k b j h = some (q, j', h') ∧ Drawn 4 q ∧ At b j' := by
  unfold spec_l03Env.f
  exact l03Env_l0 b 5 k 0 [] j h (by omega) (by omega) (by omega) ⟨⟨by simp, List.Pairwise.nil⟩, by simp, by simp⟩ ha

/-! ### drawEnvF -/
theorem drawEnv_is (b : List Int) (hb : b.length ≤ 140737488351232) (k : Nat) (hk : 8000010 < k) : ∃ q, spec_DrawEnv.f k b = some q ∧ Drawn 4 q := by
  unfold spec_DrawEnv.f
  obtain ⟨h, e⟩ := l01New_is b hb k (by omega)
  obtain ⟨q, j', h', e2, hq, _⟩ := l03Env_is b 0 h ⟨hb, by omega, by omega⟩ k hk
  rw [e, Option.bind_some]
  refine ⟨q, ?_, hq⟩
  show (spec_l03Env.f k b 0 h).bind _ = _
  rw [e2, Option.bind_some]

/-! ### drawAnyN -/
/-- A list of few short names. -/
structure FewN (xs : List S54) : Prop where
  short : ∀ v ∈ xs, v.f0.size ≤ 5
  len : xs.length ≤ 7
  num : ∀ v ∈ xs, -10000 ≤ v.f1 ∧ v.f1 ≤ 10000
theorem FewN.more {xs : List S54} {v : S54} (h : FewN xs) (hl : xs.length < 7) (hn : -10000 ≤ v.f1 ∧ v.f1 ≤ 10000) (hv : v.f0.size ≤ 5) : FewN (xs ++ [v]) := by
  refine ⟨?_, by simp; omega, ?_⟩
  · intro w hw
    rw [List.mem_append, List.mem_singleton] at hw
    rcases hw with hw | rfl
    · exact h.short w hw
    · exact hv
  · intro w hw
    rw [List.mem_append, List.mem_singleton] at hw
    rcases hw with hw | rfl
    · exact h.num w hw
    · exact hn
theorem l03AnyN_l0 (b : List Int) (d : Nat) : ∀ (k : Nat) (i : Int) (xs : List S54) (j h : Int), 7 - xs.length ≤ d → d < k → FewN xs → At b j →
    ∃ q j' h', spec_l03Any.l0 k xs i b j h = some (q, j', h') ∧ FewN q ∧ At b j' := by
  induction d with
  | zero =>
    intro k i xs j h hd hk hf ha
    obtain ⟨k, rfl⟩ : ∃ m, k = m + 1 := ⟨k - 1, by omega⟩
    obtain ⟨r, j', h', e, hr, ha'⟩ := l01Below_is b j h ha 2 (by omega)
    rw [spec_l03Any.l0, e, Option.bind_some, if_neg (by show ¬ _ < wrap64 (6 + r); rw [w64 (by omega) (by omega)]; omega)]
    exact ⟨_, _, _, rfl, hf, ha'⟩
  | succ d ih =>
    intro k i xs j h hd hk hf ha
    obtain ⟨k, rfl⟩ : ∃ m, k = m + 1 := ⟨k - 1, by omega⟩
    obtain ⟨r, j', h', e, hr, ha'⟩ := l01Below_is b j h ha 2 (by omega)
    rw [spec_l03Any.l0, e, Option.bind_some]
    by_cases c : (xs.length : Int) < wrap64 (6 + r)
    · have c2 := c
      rw [w64 (by omega) (by omega)] at c2
      have hs : ∀ x : Int, (strOfNums [x]).size = 1 := fun x => str_size [x]
      rw [if_pos c, Option.bind_some, if_pos (by rw [hs]; omega), if_pos (by omega)]
      refine ih k _ _ _ _ (by simp; omega) (by omega) (hf.more (by omega) (by show (-10000 : Int) ≤ 0 ∧ (0 : Int) ≤ 10000; omega) ?_) ha'
      show ((⟨#[121]⟩ : ByteArray) ++ strOfNums _).size ≤ 5
      rw [ByteArray.size_append, hs]
      show 1 + 1 ≤ 5
      omega
    · rw [if_neg c]
      exact ⟨_, _, _, rfl, hf, ha'⟩
theorem l03AnyN_is (b : List Int) (j h : Int) (ha : At b j) (k : Nat) (hk : 8000010 < k) : ∃ q j' h', spec_l03Any.f k b j h = some (q, j', h') ∧ FewN q ∧ At b j' := by
  unfold spec_l03Any.f
  obtain ⟨q, j1, h1, e1, hq, a1⟩ := l03Env_is b j h ha k hk
  have hl := hq.len
  have fq : FewN q := ⟨fun v hv => by have := names5_size (hq.names v hv); omega, by omega, fun v hv => by
    have h1 := hq.good.all v hv
    unfold okV at h1
    rw [Bool.and_eq_true] at h1
    have h2 := h1.2
    unfold numB at h2
    have := of_decide_eq_true h2
    omega⟩
  rw [Option.bind_some, e1, Option.bind_some, if_pos (by show 0 + q.length < _; omega), Option.bind_some, List.nil_append]
  obtain ⟨r, j2, h2, e2, hr, a2⟩ := l01Below_is b j1 h1 a1 10 (by omega)
  show ∃ q' j' h', ((spec_l01Below.f b j1 h1 10).bind _ : Option _) = _ ∧ _
  rw [e2, Option.bind_some]
  by_cases c0 : r = 0
  · rw [if_pos c0]
    obtain ⟨n, j3, h3, e3, hn, a3⟩ := l01Pick_is b j2 h2 a2 [(⟨#[]⟩ : ByteArray), (⟨#[65]⟩ : ByteArray), (⟨#[122, 122]⟩ : ByteArray), (⟨#[97, 98, 99, 100, 101]⟩ : ByteArray)] (by simp)
    show ∃ q' j' h', ((spec_l01Pick.f b j2 h2 [(⟨#[]⟩ : ByteArray), (⟨#[65]⟩ : ByteArray), (⟨#[122, 122]⟩ : ByteArray), (⟨#[97, 98, 99, 100, 101]⟩ : ByteArray)]).bind _ : Option _) = _ ∧ _
    rw [e3, Option.bind_some, if_pos (by show q.length < _; omega)]
    refine ⟨_, _, _, rfl, fq.more (by omega) (by show (-10000 : Int) ≤ 0 ∧ (0 : Int) ≤ 10000; omega) ?_, a3⟩
    show n.size ≤ 5
    simp only [List.mem_cons, List.not_mem_nil, or_false] at hn
    rcases hn with rfl | rfl | rfl | rfl <;> decide
  · rw [if_neg c0]
    by_cases c1 : r = 1
    · rw [if_pos c1]
      by_cases cl : (q.length : Int) > 0
      · rw [if_pos cl]
        obtain ⟨m, j3, h3, e3, hm, a3⟩ := l01PickInt_is b j2 h2 a2 [(-10000), (-9999), 9999, 10000] (by simp)
        show ∃ q' j' h', ((spec_l01PickInt.f b j2 h2 [(-10000), (-9999), 9999, 10000]).bind _ : Option _) = _ ∧ _
        rw [e3, Option.bind_some, if_pos (by show 0 < (q.length : Int); omega)]
        refine ⟨_, _, _, rfl, ⟨?_, by rw [List.length_set]; show q.length ≤ 7; omega, ?_⟩, a3⟩
        · intro v hv
          rcases List.mem_or_eq_of_mem_set hv with hv | rfl
          · exact fq.short v hv
          · show (rd_T54 q 0).f0.size ≤ 5
            have := rdI' q 0 (by omega)
            rw [show (0 : Int) = ((0 : Nat) : Int) from rfl, this]
            exact fq.short _ (List.getElem_mem _)
        · intro v hv
          rcases List.mem_or_eq_of_mem_set hv with hv | rfl
          · exact fq.num v hv
          · show -10000 ≤ m ∧ m ≤ 10000
            simp only [List.mem_cons, List.not_mem_nil, or_false] at hm
            omega
      · rw [if_neg cl]
        exact ⟨_, _, _, rfl, fq, a2⟩
    · rw [if_neg c1]
      by_cases c2 : r = 2
      · rw [if_pos c2]
        exact l03AnyN_l0 b 7 k 0 q j2 h2 (by omega) (by omega) fq a2
      · rw [if_neg c2]
        exact ⟨_, _, _, rfl, fq, a2⟩

/-! ### mkB -/
def mkB (l : List UInt8) : ByteArray := ⟨l.toArray⟩
theorem data_mk (l : List UInt8) : (mkB l).data.toList = l := by simp [mkB]
theorem ba_ext {x y : ByteArray} (h : x.data.toList = y.data.toList) : x = y := by
  cases x; cases y
  simp only [ByteArray.mk.injEq]
  exact Array.toList_inj.1 h
theorem mk_data (s : ByteArray) : mkB s.data.toList = s := ba_ext (data_mk _)
theorem mk_append (a b : List UInt8) : mkB a ++ mkB b = mkB (a ++ b) := by
  refine ba_ext ?_
  rw [data_mk, ByteArray.data_append, Array.toList_append, data_mk, data_mk]
theorem mk_size (l : List UInt8) : (mkB l).size = l.length := rfl
theorem mk_inj {a b : List UInt8} (h : mkB a = mkB b) : a = b := by rw [← data_mk a, h, data_mk]
theorem mk_toList (l : List UInt8) : (mkB l).toList = l := by rw [ByteArray.toList_eq]; exact data_mk l

/-! ### specDecimal -/
/-! the reference's decimal numeral is the library's -/
def digs (m : Nat) : List UInt8 := if m = 0 then [] else Go.Lib.decDigits m
theorem digs_step (m : Nat) (h : m ≠ 0) : digs m = digs (m / 10) ++ [UInt8.ofNat (48 + m % 10)] := by
  unfold digs
  rw [if_neg h, Go.Lib.decDigits]
  by_cases h10 : m < 10
  · rw [dif_pos h10, if_pos (by omega), Nat.mod_eq_of_lt h10]; rfl
  · rw [dif_neg h10, if_neg (by omega)]
theorem figure_is (a : Nat) (h : a < 10) : spec_l01Figure.f (a : Int) = some ((48 + a : Nat) : Int) := by
  unfold spec_l01Figure.f
  rw [if_pos (by omega), w64 (by omega) (by omega)]
  congr 1
  omega
theorem str_cons (a : Nat) (l : List UInt8) : strOfNums [(a : Int)] ++ (⟨l.toArray⟩ : ByteArray) = ⟨(UInt8.ofNat a :: l).toArray⟩ := by
  have h : (strOfNums [(a : Int)] ++ (⟨l.toArray⟩ : ByteArray)).data.toList = (⟨(UInt8.ofNat a :: l).toArray⟩ : ByteArray).data.toList := by simp [strOfNums]
  revert h
  generalize strOfNums [(a : Int)] ++ (⟨l.toArray⟩ : ByteArray) = x
  generalize (⟨(UInt8.ofNat a :: l).toArray⟩ : ByteArray) = y
  intro h
  cases x; cases y
  simp only [ByteArray.mk.injEq]
  exact Array.toList_inj.1 h
theorem minus_cons (l : List UInt8) : (⟨#[45]⟩ : ByteArray) ++ (⟨l.toArray⟩ : ByteArray) = ⟨(45 :: l).toArray⟩ := str_cons 45 l
theorem tmod_abs (x : Int) : (Int.tmod x 10).natAbs = x.natAbs % 10 := by
  rw [Int.natAbs_tmod]; rfl
theorem tdiv_abs (x : Int) : (Int.tdiv x 10).natAbs = x.natAbs / 10 := by
  rw [Int.natAbs_tdiv]; rfl
theorem tmod_nonneg_iff (x : Int) : (0 ≤ x → 0 ≤ Int.tmod x 10) ∧ (x ≤ 0 → Int.tmod x 10 ≤ 0) := by
  refine ⟨fun h => Int.tmod_nonneg 10 h, fun h => ?_⟩
  have := Int.tmod_nonneg 10 (show 0 ≤ -x by omega)
  rw [Int.neg_tmod] at this
  omega
theorem tdiv_range (x : Int) (h0 : -9223372036854775808 ≤ x) (h1 : x ≤ 9223372036854775807) : -9223372036854775808 ≤ Int.tdiv x 10 ∧ Int.tdiv x 10 ≤ 9223372036854775807 := by
  have := tdiv_abs x
  omega
theorem specDecimal_l0 (d : Nat) : ∀ (k : Nat) (x : Int) (below : Bool) (acc : List UInt8), x.natAbs < 10 ^ d → -9223372036854775808 ≤ x → x ≤ 9223372036854775807 → acc.length + d ≤ 1000 → d < k →
    spec_Decimal.l0 k x below ⟨acc.toArray⟩ = some (if below = true then ⟨(45 :: (digs x.natAbs ++ acc)).toArray⟩ else ⟨(digs x.natAbs ++ acc).toArray⟩) := by
  have hsz : ∀ l : List UInt8, (⟨l.toArray⟩ : ByteArray).size = l.length := fun l => rfl
  have hend : ∀ (k : Nat) (below : Bool) (acc : List UInt8), acc.length ≤ 1000 → 1 ≤ k → spec_Decimal.l0 k 0 below ⟨acc.toArray⟩ = some (if below = true then ⟨(45 :: (digs 0 ++ acc)).toArray⟩ else ⟨(digs 0 ++ acc).toArray⟩) := by
    intro k below acc ha hk
    obtain ⟨k, rfl⟩ : ∃ k', k = k' + 1 := ⟨k - 1, by omega⟩
    rw [spec_Decimal.l0, if_pos rfl]
    cases below with
    | true => rw [if_pos rfl, if_pos rfl, if_pos (by rw [hsz]; omega), minus_cons]; rfl
    | false => rw [if_neg (by simp), if_neg (by simp)]; rfl
  induction d with
  | zero =>
    intro k x below acc hx h0 h1 ha hk
    have : x = 0 := by simp only [Nat.pow_zero] at hx; omega
    subst this
    exact hend k below acc (by omega) (by omega)
  | succ d ih =>
    intro k x below acc hx h0 h1 ha hk
    by_cases hz : x = 0
    · subst hz; exact hend k below acc (by omega) (by omega)
    · obtain ⟨k, rfl⟩ : ∃ k', k = k' + 1 := ⟨k - 1, by omega⟩
      have hm := tmod_abs x
      have hq := tdiv_abs x
      obtain ⟨q0, q1⟩ := tdiv_range x h0 h1
      have hne : x.natAbs ≠ 0 := by omega
      have hlt : x.natAbs % 10 < 10 := Nat.mod_lt _ (by omega)
      have hrec := ih k (Int.tdiv x 10) below (UInt8.ofNat (48 + x.natAbs % 10) :: acc) (by rw [hq]; rw [Nat.pow_succ] at hx; omega) q0 q1 (by simp only [List.length_cons]; omega) (by omega)
      have hfin : spec_Decimal.l0 k (Int.tdiv x 10) below (strOfNums [((48 + x.natAbs % 10 : Nat) : Int)] ++ ⟨acc.toArray⟩) = some (if below = true then ⟨(45 :: (digs x.natAbs ++ acc)).toArray⟩ else ⟨(digs x.natAbs ++ acc).toArray⟩) := by
        rw [str_cons, hrec, hq, digs_step _ hne]
        simp only [List.append_assoc, List.cons_append, List.nil_append]
      have h1' : (strOfNums [((48 + x.natAbs % 10 : Nat) : Int)]).size = 1 := str_size _
      rw [spec_Decimal.l0, if_neg hz, w64 q0 q1]
      by_cases hneg : Int.tmod x 10 < 0
      · have e : wrap64 (-(Int.tmod x 10)) = ((x.natAbs % 10 : Nat) : Int) := by rw [w64 (by omega) (by omega)]; omega
        rw [if_pos hneg, e, figure_is _ hlt, Option.bind_some, Option.bind_some, if_pos (by rw [h1', hsz]; omega)]
        exact hfin
      · have e : Int.tmod x 10 = ((x.natAbs % 10 : Nat) : Int) := by omega
        rw [if_neg hneg, e, figure_is _ hlt, Option.bind_some, Option.bind_some, if_pos (by rw [h1', hsz]; omega)]
        exact hfin
theorem specDecimal_is (n : Int) (h0 : -9223372036854775808 ≤ n) (h1 : n ≤ 9223372036854775807) (k : Nat) (hk : 30 ≤ k) : spec_Decimal.f k n = some ⟨(Go.Lib.itoa n).toArray⟩ := by
  unfold spec_Decimal.f Go.Lib.itoa
  by_cases hz : n = 0
  · subst hz
    rw [if_pos rfl, if_neg (by omega)]
    have : Go.Lib.decDigits (Int.toNat 0) = [48] := Go.Lib.decDigits_one (by decide)
    rw [this]
  · have h := specDecimal_l0 20 k n (decide (n < 0)) [] (by have : (10 : Nat) ^ 20 = 100000000000000000000 := by decide
                                                            omega) h0 h1 (by simp) (by omega)
    rw [if_neg hz]
    refine h.trans ?_
    rw [List.append_nil]
    have hd : digs n.natAbs = Go.Lib.decDigits n.natAbs := by unfold digs; rw [if_neg (by omega)]
    rw [hd]
    by_cases hn : n < 0
    · rw [if_pos (by simpa using hn), if_pos hn]
    · rw [if_neg (by simpa using hn), if_neg hn, show n.natAbs = n.toNat by omega]

/-! ### implDecimal -/
theorem implDecimal_is (n : Int) (h0 : -9223372036854775808 ≤ n) (h1 : n ≤ 9223372036854775807) : impl_Decimal.f n = some ⟨(Go.Lib.itoa n).toArray⟩ := by
  unfold impl_Decimal.f strconv_Itoa.f
  rw [if_pos h0, if_pos h1, Option.bind_some]

/-! ### envText -/
def numL (n : Int) : List UInt8 := if n < 0 then 45 :: Go.Lib.itoa (wrap64 (-n)) else Go.Lib.itoa n
def pieceL (v : S54) : List UInt8 := v.f0.data.toList ++ 61 :: numL v.f1
def textL (xs : List S54) : List UInt8 := Go.Lib.join (xs.map pieceL) [44]
theorem rdV_ (xs : List S54) (i : Nat) (h : i < xs.length) : rd_T54 xs (i : Int) = xs[i] := by simp [rd_T54, List.getD, h]
theorem w1_ (i : Nat) (h : i ≤ 1048577) : wrap64 ((i : Int) + 1) = ((i + 1 : Nat) : Int) := by rw [w64 (by omega) (by omega)]; omega
theorem wrap_range (x : Int) : -9223372036854775808 ≤ wrap64 x ∧ wrap64 x ≤ 9223372036854775807 := by unfold wrap64; omega
theorem numL_length (n : Int) (h0 : -9223372036854775808 ≤ n) (h1 : n ≤ 9223372036854775807) : (numL n).length ≤ 22 := by
  unfold numL
  split
  · have := Go.Lib.itoa_length_le (wrap64 (-n)) (wrap_range _).1 (wrap_range _).2
    simp only [List.length_cons]; omega
  · have := Go.Lib.itoa_length_le n h0 h1
    omega
theorem l03Num_is (n : Int) (h0 : -9223372036854775808 ≤ n) (h1 : n ≤ 9223372036854775807) (k : Nat) (hk : 30 ≤ k) : spec_l03Num.f k n = some (mkB (numL n)) := by
  unfold spec_l03Num.f numL
  by_cases h : n < 0
  · have hl := Go.Lib.itoa_length_le (wrap64 (-n)) (wrap_range _).1 (wrap_range _).2
    have hs : (⟨(Go.Lib.itoa (wrap64 (-n))).toArray⟩ : ByteArray).size = (Go.Lib.itoa (wrap64 (-n))).length := rfl
    rw [if_pos h, if_pos h, specDecimal_is _ (wrap_range _).1 (wrap_range _).2 k hk, Option.bind_some, if_pos (by rw [hs]; omega)]
    exact congrArg some (mk_append [45] _)
  · rw [if_neg h, if_neg h, specDecimal_is n h0 h1 k hk, Option.bind_some]; rfl
theorem c44_ : (⟨#[44]⟩ : ByteArray) = mkB [44] := rfl
theorem c61_ : (⟨#[61]⟩ : ByteArray) = mkB [61] := rfl
theorem c45_ : (⟨#[45]⟩ : ByteArray) = mkB [45] := rfl
theorem joinTail_cons (x : List UInt8) (r : List (List UInt8)) : Go.Lib.joinTail [44] (x :: r) = 44 :: x ++ Go.Lib.joinTail [44] r := by simp [Go.Lib.joinTail]
/-- What is known of a list of names: few, each short, the numbers ints. -/
def Txt (xs : List S54) : Prop := xs.length ≤ 1048576 ∧ ∀ v ∈ xs, v.f0.size ≤ 1048576 ∧ -9223372036854775808 ≤ v.f1 ∧ v.f1 ≤ 9223372036854775807
theorem specEnvText_l0 (xs : List S54) (hx : Txt xs) (d : Nat) : ∀ (k i : Nat) (acc : List UInt8), xs.length - i ≤ d → i ≤ xs.length → 0 < i → acc.length ≤ i * 1048700 → d + 31 ≤ k →
    spec_EnvText.l0 k xs (mkB acc) (i : Int) = some (mkB (acc ++ Go.Lib.joinTail [44] ((xs.drop i).map pieceL))) := by
  have hxl := hx.1
  induction d with
  | zero =>
    intro k i acc hd hi hp ha hk
    obtain ⟨k, rfl⟩ : ∃ k', k = k' + 1 := ⟨k - 1, by omega⟩
    rw [spec_EnvText.l0, if_neg (by omega), List.drop_eq_nil_of_le (by omega)]
    simp [Go.Lib.joinTail]
  | succ d ih =>
    intro k i acc hd hi hp ha hk
    obtain ⟨k, rfl⟩ : ∃ k', k = k' + 1 := ⟨k - 1, by omega⟩
    by_cases hlt : i < xs.length
    · have hv := hx.2 xs[i] (List.getElem_mem hlt)
      have hn := numL_length _ hv.2.1 hv.2.2
      have hacc : acc.length ≤ 1048576 * 1048700 := Nat.le_trans ha (Nat.mul_le_mul_right _ (by omega))
      have e0 : xs[i].f0 = mkB xs[i].f0.data.toList := (mk_data _).symm
      have hs : xs[i].f0.data.toList.length ≤ 1048576 := hv.1
      have hpl : (44 :: pieceL xs[i]).length ≤ 1048700 := by
        unfold pieceL
        simp only [List.length_cons, List.length_append]; omega
      have hrec := ih k (i + 1) (acc ++ 44 :: pieceL xs[i]) (by omega) (by omega) (by omega) (by rw [List.length_append, Nat.succ_mul]; omega) (by omega)
      rw [drop_get xs i hlt, List.map_cons, joinTail_cons, spec_EnvText.l0, if_pos (by omega), if_pos (by omega), rdV_ xs i hlt, l03Num_is _ hv.2.1 hv.2.2 k (by omega), w1_ i (by omega), e0, c44_, c61_]
      simp only [mk_append, mk_size, Option.bind_some]
      rw [if_pos (by omega), if_pos (by omega), if_pos (by first | omega | (simp only [List.length_append, List.length_cons, List.length_nil]; omega)), if_pos (by first | omega | (simp only [List.length_append, List.length_cons, List.length_nil]; omega)), if_pos (by first | omega | (simp only [List.length_append, List.length_cons, List.length_nil]; omega))]
      have e1 : (((acc ++ [44]) ++ xs[i].f0.data.toList) ++ [61]) ++ numL xs[i].f1 = acc ++ 44 :: pieceL xs[i] := by
        unfold pieceL
        simp only [List.append_assoc, List.cons_append, List.nil_append]
      rw [e1, hrec]
      simp only [List.append_assoc, List.cons_append]
    · exact (by
        rw [spec_EnvText.l0, if_neg (by omega), List.drop_eq_nil_of_le (by omega)]
        simp [Go.Lib.joinTail])
theorem specEnvText_is (xs : List S54) (hx : Txt xs) (k : Nat) (hk : xs.length + 40 ≤ k) : spec_EnvText.f k xs = some (mkB (textL xs)) := by
  have hxl := hx.1
  unfold spec_EnvText.f textL
  obtain ⟨k, rfl⟩ : ∃ k', k = k' + 1 := ⟨k - 1, by omega⟩
  cases xs with
  | nil => rw [spec_EnvText.l0, if_neg (by simp)]; simp [Go.Lib.join]; rfl
  | cons v l =>
    have hv := hx.2 v (by simp)
    have hn := numL_length _ hv.2.1 hv.2.2
    have e0 : v.f0 = mkB v.f0.data.toList := (mk_data _).symm
    have hs : v.f0.data.toList.length ≤ 1048576 := hv.1
    have hr : rd_T54 (v :: l) 0 = v := rdV_ (v :: l) 0 (by simp)
    have hpl : (pieceL v).length ≤ 1048700 := by
      unfold pieceL
      simp only [List.length_cons, List.length_append]; omega
    have hrec := specEnvText_l0 (v :: l) hx (v :: l).length k 1 (pieceL v) (by simp only [List.length_cons]; omega) (by simp only [List.length_cons]; omega) (by omega) (by omega) (by simp only [List.length_cons] at *; omega)
    rw [List.map_cons, Go.Lib.join_cons, spec_EnvText.l0, if_pos (by simp only [List.length_cons]; omega), if_neg (by omega), if_pos (by omega), hr, l03Num_is _ hv.2.1 hv.2.2 k (by simp only [List.length_cons] at *; omega), show wrap64 ((0 : Int) + 1) = ((1 : Nat) : Int) from w1_ 0 (by omega), e0, c61_, show (⟨#[]⟩ : ByteArray) = mkB [] from rfl]
    simp only [mk_append, mk_size, Option.bind_some, List.nil_append]
    rw [if_pos (by first | omega | (simp only [List.length_append, List.length_cons, List.length_nil]; omega)), if_pos (by first | omega | (simp only [List.length_append, List.length_cons, List.length_nil]; omega)), if_pos (by first | omega | (simp only [List.length_append, List.length_cons, List.length_nil]; omega))]
    have e1 : (v.f0.data.toList ++ [61]) ++ numL v.f1 = pieceL v := by unfold pieceL; simp only [List.append_assoc, List.cons_append, List.nil_append]
    rw [e1, hrec]
    rfl
theorem joinTail_le (B : Nat) : ∀ (l : List (List UInt8)), (∀ x ∈ l, x.length ≤ B) → (Go.Lib.joinTail [44] l).length ≤ l.length * (B + 1)
  | [], _ => by simp [Go.Lib.joinTail]
  | x :: l, h => by
    have := joinTail_le B l (fun y hy => h y (List.mem_cons_of_mem _ hy))
    have hx := h x (by simp)
    rw [joinTail_cons, List.length_append, List.length_cons, List.length_cons, Nat.succ_mul]
    omega
theorem join_le (B : Nat) (l : List (List UInt8)) (h : ∀ x ∈ l, x.length ≤ B) : (Go.Lib.join l [44]).length ≤ l.length * (B + 1) := by
  cases l with
  | nil => simp [Go.Lib.join]
  | cons x l =>
    have := joinTail_le B l (fun y hy => h y (List.mem_cons_of_mem _ hy))
    have hx := h x (by simp)
    rw [Go.Lib.join_cons, List.length_append, List.length_cons, Nat.succ_mul]
    omega
theorem implEnvText_l0 (xs : List S54) (hx : Txt xs) (d : Nat) : ∀ (k i : Nat) (acc : List ByteArray), xs.length - i ≤ d → i ≤ xs.length → acc = (xs.take i).map (fun v => mkB (pieceL v)) → d + 1 ≤ k →
    impl_EnvText.l0 k acc xs (xs.length : Int) (i : Int) = some (mkB (textL xs)) := by
  have hxl := hx.1
  have hend : ∀ (k i : Nat) (acc : List ByteArray), xs.length ≤ i → acc = (xs.take i).map (fun v => mkB (pieceL v)) → 1 ≤ k → impl_EnvText.l0 k acc xs (xs.length : Int) (i : Int) = some (mkB (textL xs)) := by
    intro k i acc hi ha hk
    obtain ⟨k, rfl⟩ : ∃ k', k = k' + 1 := ⟨k - 1, by omega⟩
    have hl : acc.map (·.data.toList) = xs.map pieceL := by
      rw [ha, List.take_of_length_le hi, List.map_map]
      refine List.map_congr_left fun v _ => ?_
      exact data_mk _
    have hlen : acc.length = xs.length := by rw [ha, List.length_map, List.take_of_length_le hi]
    have hj := join_le 1048700 (xs.map pieceL) (fun x hx' => by
      obtain ⟨v, hv, rfl⟩ := List.mem_map.1 hx'
      have hv' := hx.2 v hv
      have hn := numL_length _ hv'.2.1 hv'.2.2
      have hs : v.f0.data.toList.length ≤ 1048576 := hv'.1
      unfold pieceL
      simp only [List.length_cons, List.length_append]; omega)
    rw [List.length_map] at hj
    have hj2 : (Go.Lib.join (xs.map pieceL) [44]).length ≤ 1048576 * 1048701 := Nat.le_trans hj (Nat.mul_le_mul_right _ hxl)
    rw [impl_EnvText.l0, if_neg (by omega)]
    unfold strings_Join.f
    rw [hl]
    rw [if_pos (by show (Go.Lib.join (xs.map pieceL) [44]).length ≤ _; omega), if_pos (by omega), Option.bind_some]
    rfl
  induction d with
  | zero => exact fun k i acc hd hi ha hk => hend k i acc (by omega) ha (by omega)
  | succ d ih =>
    intro k i acc hd hi ha hk
    by_cases hlt : i < xs.length
    · obtain ⟨k, rfl⟩ : ∃ k', k = k' + 1 := ⟨k - 1, by omega⟩
      have hv := hx.2 xs[i] (List.getElem_mem hlt)
      have hn := numL_length _ hv.2.1 hv.2.2
      have e0 : xs[i].f0 = mkB xs[i].f0.data.toList := (mk_data _).symm
      have hs : xs[i].f0.data.toList.length ≤ 1048576 := hv.1
      have hal : acc.length ≤ 1048576 := by rw [ha, List.length_map, List.length_take]; omega
      have hrec := ih k (i + 1) (acc ++ [mkB (pieceL xs[i])]) (by omega) (by omega) (by rw [ha, List.take_add_one, List.getElem?_eq_getElem hlt, List.map_append]; rfl) (by omega)
      have hd1 : ∀ n : Int, (⟨(Go.Lib.itoa n).toArray⟩ : ByteArray) = mkB (Go.Lib.itoa n) := fun _ => rfl
      rw [impl_EnvText.l0, if_pos (by omega), if_pos (by omega), if_pos (by omega), rdV_ xs i hlt, implDecimal_is _ hv.2.1 hv.2.2, Option.bind_some, w1_ i (by omega)]
      by_cases hneg : xs[i].f1 < 0
      · have hl := Go.Lib.itoa_length_le (wrap64 (-xs[i].f1)) (wrap_range _).1 (wrap_range _).2
        rw [if_pos hneg, implDecimal_is _ (wrap_range _).1 (wrap_range _).2, Option.bind_some, hd1, e0, c45_, c61_]
        simp only [mk_append, mk_size]
        rw [if_pos (by omega), if_pos (by omega), if_pos (by first | omega | (simp only [List.length_append, List.length_cons, List.length_nil]; omega)), if_pos (by omega)]
        have e1 : (xs[i].f0.data.toList ++ [61]) ++ ([45] ++ Go.Lib.itoa (wrap64 (-xs[i].f1))) = pieceL xs[i] := by
          unfold pieceL numL
          rw [if_pos hneg]
          simp only [List.append_assoc, List.cons_append, List.nil_append]
        rw [e1]; exact hrec
      · have hl := Go.Lib.itoa_length_le xs[i].f1 hv.2.1 hv.2.2
        rw [if_neg hneg, hd1, e0, c61_]
        simp only [mk_append, mk_size]
        rw [if_pos (by omega), if_pos (by first | omega | (simp only [List.length_append, List.length_cons, List.length_nil]; omega)), if_pos (by omega)]
        have e1 : (xs[i].f0.data.toList ++ [61]) ++ Go.Lib.itoa xs[i].f1 = pieceL xs[i] := by
          unfold pieceL numL
          rw [if_neg hneg]
          simp only [List.append_assoc, List.cons_append, List.nil_append]
        rw [e1]; exact hrec
    · exact hend k i acc (by omega) ha (by omega)
theorem implEnvText_is (xs : List S54) (hx : Txt xs) (k : Nat) (hk : xs.length + 1 ≤ k) : impl_EnvText.f k xs = some (mkB (textL xs)) := by
  unfold impl_EnvText.f
  exact implEnvText_l0 xs hx xs.length k 0 [] (by omega) (by omega) (by simp) hk

/-! ### decInj -/
/-! decimal numerals: their figures, their value -/
theorem dec_ind {P : Nat → List UInt8 → Prop} (h1 : ∀ u, u < 10 → P u [UInt8.ofNat (48 + u)]) (h2 : ∀ u, 10 ≤ u → P (u / 10) (Go.Lib.decDigits (u / 10)) → P u (Go.Lib.decDigits (u / 10) ++ [UInt8.ofNat (48 + u % 10)])) (u : Nat) : P u (Go.Lib.decDigits u) := by
  induction u using Nat.strongRecOn with
  | _ u ih =>
    rw [Go.Lib.decDigits]
    by_cases h : u < 10
    · rw [dif_pos h]; exact h1 u h
    · rw [dif_neg h]; exact h2 u (by omega) (ih (u / 10) (by omega))
theorem fig_nat (r : Nat) (h : r < 10) : (UInt8.ofNat (48 + r)).toNat = 48 + r := by
  rw [UInt8.toNat_ofNat']; omega
theorem dec_figs (u : Nat) : ∀ b ∈ Go.Lib.decDigits u, 48 ≤ b.toNat ∧ b.toNat ≤ 57 := by
  refine dec_ind (P := fun _ l => ∀ b ∈ l, 48 ≤ b.toNat ∧ b.toNat ≤ 57) ?_ ?_ u
  · intro u hu b hb
    rw [List.mem_singleton] at hb
    rw [hb, fig_nat u hu]; omega
  · intro u hu ih b hb
    rw [List.mem_append, List.mem_singleton] at hb
    rcases hb with hb | hb
    · exact ih b hb
    · rw [hb, fig_nat _ (Nat.mod_lt _ (by omega))]; omega
/-- What figures are worth. -/
def worth (l : List UInt8) : Nat := l.foldl (fun a b => 10 * a + (b.toNat - 48)) 0
theorem worth_dec (u : Nat) : worth (Go.Lib.decDigits u) = u := by
  refine dec_ind (P := fun u l => worth l = u) ?_ ?_ u
  · intro u hu
    show 10 * 0 + ((UInt8.ofNat (48 + u)).toNat - 48) = u
    rw [fig_nat u hu]; omega
  · intro u hu ih
    unfold worth at ih ⊢
    rw [List.foldl_append, ih]
    show 10 * (u / 10) + ((UInt8.ofNat (48 + u % 10)).toNat - 48) = u
    rw [fig_nat _ (Nat.mod_lt _ (by omega))]; omega
theorem dec_inj {u v : Nat} (h : Go.Lib.decDigits u = Go.Lib.decDigits v) : u = v := by rw [← worth_dec u, h, worth_dec]
theorem dec_ne_nil (u : Nat) : Go.Lib.decDigits u ≠ [] := by
  refine dec_ind (P := fun _ l => l ≠ []) ?_ ?_ u
  · intro u _; simp
  · intro u _ _; simp

/-! ### envTextInj -/
/-! what is told of names is told of these names alone -/
theorem numL_figs (n : Int) (h : -9999 ≤ n ∧ n ≤ 9999) : ∀ b ∈ numL n, b.toNat ≠ 44 := by
  intro b hb
  unfold numL Go.Lib.itoa at hb
  by_cases h0 : n < 0
  · rw [if_pos h0, w64 (by omega) (by omega), if_neg (by omega), List.mem_cons] at hb
    rcases hb with rfl | hb
    · decide
    · have := dec_figs _ b hb; omega
  · rw [if_neg h0, if_neg h0] at hb
    have := dec_figs _ b hb; omega
theorem numL_inj {n m : Int} (hn : -9999 ≤ n ∧ n ≤ 9999) (hm : -9999 ≤ m ∧ m ≤ 9999) (h : numL n = numL m) : n = m := by
  have hno : ∀ u v : Nat, (45 : UInt8) :: Go.Lib.decDigits u = Go.Lib.decDigits v → False := by
    intro u v e
    have := dec_figs v 45 (by rw [← e]; simp)
    revert this; decide
  unfold numL Go.Lib.itoa at h
  by_cases h0 : n < 0
  · rw [if_pos h0, w64 (by omega) (by omega), if_neg (by omega)] at h
    by_cases h1 : m < 0
    · rw [if_pos h1, w64 (by omega) (by omega), if_neg (by omega)] at h
      have := dec_inj (List.cons.inj h).2
      omega
    · rw [if_neg h1, if_neg h1] at h
      exact (hno _ _ h).elim
  · rw [if_neg h0, if_neg h0] at h
    by_cases h1 : m < 0
    · rw [if_pos h1, w64 (by omega) (by omega), if_neg (by omega)] at h
      exact (hno _ _ h.symm).elim
    · rw [if_neg h1, if_neg h1] at h
      have := dec_inj h
      omega
theorem cut_inj (c : UInt8) : ∀ (a b r s : List UInt8), (∀ x ∈ a, x ≠ c) → (∀ x ∈ b, x ≠ c) → (r = [] ∨ ∃ r', r = c :: r') → (s = [] ∨ ∃ s', s = c :: s') → a ++ r = b ++ s → a = b ∧ r = s
  | [], [], r, s, _, _, _, _, h => ⟨rfl, h⟩
  | [], y :: b, r, s, _, hb, hr, _, h => by
    exfalso
    rw [List.nil_append] at h
    rcases hr with rfl | ⟨r', rfl⟩
    · cases h
    · exact hb y (by simp) (List.cons.inj h).1.symm
  | x :: a, [], r, s, ha, _, _, hs, h => by
    exfalso
    rw [List.nil_append] at h
    rcases hs with rfl | ⟨s', rfl⟩
    · cases h
    · exact ha x (by simp) (List.cons.inj h).1
  | x :: a, y :: b, r, s, ha, hb, hr, hs, h => by
    obtain ⟨h1, h2⟩ := List.cons.inj h
    obtain ⟨h3, h4⟩ := cut_inj c a b r s (fun z hz => ha z (List.mem_cons_of_mem _ hz)) (fun z hz => hb z (List.mem_cons_of_mem _ hz)) hr hs h2
    exact ⟨by rw [h1, h3], h4⟩
theorem name_bytes {s : ByteArray} (h : varNameB s = true) : ∀ b ∈ s.data.toList, 97 ≤ b.toNat ∧ b.toNat ≤ 122 := by
  intro b hb
  unfold varNameB at h
  rw [Bool.and_eq_true, List.all_eq_true] at h
  have := h.1 (b.toNat : Int) (List.mem_map.2 ⟨b, hb, rfl⟩)
  unfold small at this
  have := of_decide_eq_true this
  omega
theorem okV_iff {v : S54} (h : okV v = true) : varNameB v.f0 = true ∧ -9999 ≤ v.f1 ∧ v.f1 ≤ 9999 := by
  unfold okV at h
  rw [Bool.and_eq_true] at h
  have h2 := h.2
  unfold numB at h2
  have := of_decide_eq_true h2
  exact ⟨h.1, this.1, this.2⟩
theorem ne_of_nat {b : UInt8} {n : Nat} (c : UInt8) (hc : c.toNat = n) (h : b.toNat ≠ n) : b ≠ c := fun e => h (by rw [e, hc])
theorem piece_44 {v : S54} (h : okV v = true) : ∀ b ∈ pieceL v, b ≠ 44 := by
  obtain ⟨h1, h2⟩ := okV_iff h
  intro b hb
  refine ne_of_nat (n := 44) 44 (by decide) ?_
  unfold pieceL at hb
  rw [List.mem_append, List.mem_cons] at hb
  rcases hb with hb | rfl | hb
  · have := name_bytes h1 b hb; omega
  · decide
  · exact numL_figs _ h2 b hb
theorem piece_inj {v w : S54} (hv : okV v = true) (hw : okV w = true) (h : pieceL v = pieceL w) : v = w := by
  obtain ⟨v1, v2⟩ := okV_iff hv
  obtain ⟨w1, w2⟩ := okV_iff hw
  unfold pieceL at h
  obtain ⟨e1, e2⟩ := cut_inj 61 _ _ _ _ (fun b hb => ne_of_nat (n := 61) 61 (by decide) (by have := name_bytes v1 b hb; omega)) (fun b hb => ne_of_nat (n := 61) 61 (by decide) (by have := name_bytes w1 b hb; omega)) (Or.inr ⟨_, rfl⟩) (Or.inr ⟨_, rfl⟩) h
  have n1 := numL_inj v2 w2 (List.cons.inj e2).2
  have n2 : v.f0 = w.f0 := ba_ext e1
  cases v; cases w
  simp only at n1 n2
  rw [n1, n2]
theorem joinTail_shape (l : List (List UInt8)) : Go.Lib.joinTail [44] l = [] ∨ ∃ r, Go.Lib.joinTail [44] l = 44 :: r := by
  cases l with
  | nil => exact Or.inl rfl
  | cons x l => exact Or.inr ⟨_, joinTail_cons x l⟩
theorem tail_inj : ∀ (xs ys : List S54), (∀ v ∈ xs, okV v = true) → (∀ v ∈ ys, okV v = true) → Go.Lib.joinTail [44] (xs.map pieceL) = Go.Lib.joinTail [44] (ys.map pieceL) → xs = ys
  | [], [], _, _, _ => rfl
  | [], y :: ys, _, _, h => by rw [List.map_cons, joinTail_cons] at h; cases h
  | x :: xs, [], _, _, h => by rw [List.map_cons, joinTail_cons] at h; cases h
  | x :: xs, y :: ys, hx, hy, h => by
    rw [List.map_cons, List.map_cons, joinTail_cons, joinTail_cons] at h
    have h' := (List.cons.inj h).2
    obtain ⟨e1, e2⟩ := cut_inj 44 _ _ _ _ (piece_44 (hx x (by simp))) (piece_44 (hy y (by simp))) (joinTail_shape _) (joinTail_shape _) h'
    rw [piece_inj (hx x (by simp)) (hy y (by simp)) e1, tail_inj xs ys (fun v hv => hx v (List.mem_cons_of_mem _ hv)) (fun v hv => hy v (List.mem_cons_of_mem _ hv)) e2]
theorem piece_ne (v : S54) : pieceL v ≠ [] := by unfold pieceL; simp
theorem textL_inj (xs ys : List S54) (hx : ∀ v ∈ xs, okV v = true) (hy : ∀ v ∈ ys, okV v = true) (h : textL xs = textL ys) : xs = ys := by
  unfold textL at h
  cases xs with
  | nil =>
    cases ys with
    | nil => rfl
    | cons y ys =>
      exfalso
      rw [List.map_cons, Go.Lib.join_cons] at h
      have h2 := h.symm
      rw [List.map_nil, Go.Lib.join_nil, List.append_eq_nil_iff] at h2
      exact piece_ne y h2.1
  | cons x xs =>
    cases ys with
    | nil =>
      exfalso
      rw [List.map_cons, Go.Lib.join_cons, List.map_nil, Go.Lib.join_nil, List.append_eq_nil_iff] at h
      exact piece_ne x h.1
    | cons y ys =>
      rw [List.map_cons, List.map_cons, Go.Lib.join_cons, Go.Lib.join_cons] at h
      obtain ⟨e1, e2⟩ := cut_inj 44 _ _ _ _ (piece_44 (hx x (by simp))) (piece_44 (hy y (by simp))) (joinTail_shape _) (joinTail_shape _) h
      rw [piece_inj (hx x (by simp)) (hy y (by simp)) e1, tail_inj xs ys (fun v hv => hx v (List.mem_cons_of_mem _ hv)) (fun v hv => hy v (List.mem_cons_of_mem _ hv)) e2]

/-! ### sameVarsD -/
theorem rdS_ (xs : List S54) (i : Nat) (h : i < xs.length) : rd_T54 xs (i : Int) = xs[i] := by simp [rd_T54, List.getD, h]
theorem sameVarsD_l0 (xs ys : List S54) (he : xs.length = ys.length) (hl : xs.length ≤ 1000000) (d : Nat) : ∀ (k i : Nat), xs.length - i = d → d < k → ∃ r, laws_sameVars.l0 k xs ys (i : Int) = some r ∧ (r = true ↔ xs.drop i = ys.drop i) := by
  induction d with
  | zero =>
    intro k i hd hk
    obtain ⟨k, rfl⟩ : ∃ m, k = m + 1 := ⟨k - 1, by omega⟩
    rw [laws_sameVars.l0, if_neg (by omega), List.drop_eq_nil_of_le (by omega), List.drop_eq_nil_of_le (by omega)]
    exact ⟨true, rfl, by simp⟩
  | succ d ih =>
    intro k i hd hk
    obtain ⟨k, rfl⟩ : ∃ m, k = m + 1 := ⟨k - 1, by omega⟩
    have hi : i < xs.length := by omega
    have hj : i < ys.length := by omega
    obtain ⟨r, hrec, hr⟩ := ih k (i + 1) (by omega) (by omega)
    rw [drop_get xs i hi, drop_get ys i hj, laws_sameVars.l0, if_pos (by omega), if_pos (by omega), if_pos (by omega), rdS_ xs i hi, rdS_ ys i hj, w64_len hi (by omega)]
    by_cases h0 : xs[i].f0 = ys[i].f0
    · by_cases h1 : xs[i].f1 = ys[i].f1
      · have e : xs[i] = ys[i] := by
          have : ∀ v w : S54, v.f0 = w.f0 → v.f1 = w.f1 → v = w := fun v w a b => by cases v; cases w; simp only at a b; rw [a, b]
          exact this _ _ h0 h1
        rw [e, if_neg (by simp), hrec]
        exact ⟨r, rfl, hr.trans ⟨fun h => (by rw [h]), fun h => (List.cons.inj h).2⟩⟩
      · have ne : xs[i] ≠ ys[i] := fun e => h1 (by rw [e])
        rw [if_pos (by simp [h1])]
        exact ⟨false, rfl, fun h => (by cases h), fun h => absurd (List.cons.inj h).1 ne⟩
    · have ne : xs[i] ≠ ys[i] := fun e => h0 (by rw [e])
      have h0' : ¬ xs[i].f0.toList = ys[i].f0.toList := fun e => h0 (toList_eq.1 e)
      rw [if_pos (by simp [h0'])]
      exact ⟨false, rfl, fun h => (by cases h), fun h => absurd (List.cons.inj h).1 ne⟩
theorem sameVarsD_is (xs ys : List S54) (hl : xs.length ≤ 1000000) (hy : ys.length ≤ 1000000) (k : Nat) (hk : xs.length < k) : ∃ r, laws_sameVars.f k xs ys = some r ∧ (r = true ↔ xs = ys) := by
  unfold laws_sameVars.f
  by_cases he : xs.length = ys.length
  · obtain ⟨r, h1, h2⟩ := sameVarsD_l0 xs ys he hl xs.length k 0 (by omega) hk
    rw [List.drop_zero, List.drop_zero] at h2
    rw [if_pos (by omega)]
    exact ⟨r, h1, h2⟩
  · rw [if_neg (by omega)]
    exact ⟨false, rfl, fun h => (by cases h), fun h => absurd (by rw [h]) he⟩

/-! ### FnEnvTexts -/
theorem good_txt {xs : List S54} (h : ∀ v ∈ xs, okV v = true) (hl : xs.length ≤ 1000) : Txt xs := by
  refine ⟨by omega, fun v hv => ?_⟩
  obtain ⟨h1, h2⟩ := okV_iff (h v hv)
  refine ⟨?_, by omega, by omega⟩
  unfold varNameB at h1
  rw [Bool.and_eq_true] at h1
  have := of_decide_eq_true h1.2
  omega
theorem putEnv_ne (xs : List S54) (n : ByteArray) (a b : Int) (hab : a ≠ b) : putEnv xs n a ≠ putEnv xs n b := by
  intro h
  unfold putEnv at h
  simp only [List.append_assoc] at h
  have h2 := List.append_cancel_left h
  have h3 : (⟨n, a⟩ : S54) = ⟨n, b⟩ := (List.cons.inj h2).1
  exact hab (congrArg (fun v : S54 => v.f1) h3)
theorem drawEnvText_is (b : List Int) (hb : b.length ≤ 140737488351232) (k : Nat) (hk : 8000010 < k) : ∃ q, spec_DrawEnvText.f k b = some q ∧ FewN q := by
  unfold spec_DrawEnvText.f
  obtain ⟨h, e⟩ := l01New_is b hb k (by omega)
  obtain ⟨q, j', h', e2, hq, _⟩ := l03AnyN_is b 0 h ⟨hb, by omega, by omega⟩ k hk
  rw [e, Option.bind_some]
  refine ⟨q, ?_, hq⟩
  show (spec_l03Any.f k b 0 h).bind _ = _
  rw [e2, Option.bind_some]
theorem toList_beq (a b : List UInt8) : ((mkB a).toList == (mkB b).toList) = decide (a = b) := by
  rw [mk_toList, mk_toList]
  exact (Bool.eq_iff_iff.2 (by rw [beq_iff_eq, decide_eq_true_iff]))
theorem FnEnvTexts : laws_FnEnvTexts.Pure := by
  intro l hl hsz hw
  refine ⟨100000000, ?_⟩
  unfold laws_FnEnvTexts.f laws_big.f
  rw [Option.bind_some]
  by_cases hbig : decide ((l.length : Int) > 1048576) = true
  · rw [if_pos hbig]
  rw [if_neg hbig]
  have hb : l.length ≤ 140737488351232 := by omega
  obtain ⟨xs, e1, h1⟩ := drawEnv_is l hb 100000000 (by omega)
  obtain ⟨zs, e2, h2⟩ := drawEnvText_is l hb 100000000 (by omega)
  have hlen := h1.len
  have hnn : varNameB (⟨#[110]⟩ : ByteArray) = true := by decide
  have sh : ∀ y ∈ xs, y.f0.size ≤ 1048576 := fun y hy => by have := names5_size (h1.names y hy); omega
  have hok : ∀ m : Int, numB m = true → envOkB (putEnv xs (⟨#[110]⟩ : ByteArray) m) = true := fun m hm =>
    (envOkB_iff _).2 ⟨putEnv_good h1.good hnn hm, by have := putEnv_length1 xs (⟨#[110]⟩ : ByteArray) m; omega⟩
  have hset : ∀ m : Int, numB m = true → spec_EnvSet.f 100000000 xs (⟨#[110]⟩ : ByteArray) m = some (putEnv xs (⟨#[110]⟩ : ByteArray) m, true) := fun m hm => by
    rw [specEnvSet_is xs _ m sh (by decide) (by omega) _ (by omega)]
    unfold setEnv
    rw [if_pos (hok m hm)]
  have hx7 := (putEnv_good h1.good hnn (m := 7) (by decide)).all
  have hy7 := (putEnv_good h1.good hnn (m := -7) (by decide)).all
  have l7 := putEnv_length1 xs (⟨#[110]⟩ : ByteArray) 7
  have l7' := putEnv_length1 xs (⟨#[110]⟩ : ByteArray) (-7)
  have tE : Txt xs := good_txt h1.good.all (by omega)
  have tX : Txt (putEnv xs (⟨#[110]⟩ : ByteArray) 7) := good_txt hx7 (by omega)
  have tY : Txt (putEnv xs (⟨#[110]⟩ : ByteArray) (-7)) := good_txt hy7 (by omega)
  have tZ : Txt zs := ⟨by have := h2.len; omega, fun v hv => ⟨by have := h2.short v hv; omega, by have := h2.num v hv; omega, by have := h2.num v hv; omega⟩⟩
  have zl := h2.len
  have tQ : Txt [(⟨(⟨#[97]⟩ : ByteArray), (-3)⟩ : S54), (⟨(⟨#[98]⟩ : ByteArray), 4⟩ : S54)] := by
    refine ⟨by simp, fun v hv => ?_⟩
    simp only [List.mem_cons, List.not_mem_nil, or_false] at hv
    rcases hv with rfl | rfl <;> exact ⟨by decide, by decide, by decide⟩
  have hQ : textL [(⟨(⟨#[97]⟩ : ByteArray), (-3)⟩ : S54), (⟨(⟨#[98]⟩ : ByteArray), 4⟩ : S54)] = [97, 61, 45, 51, 44, 98, 61, 52] := by
    have a1 : numL (-3) = [45, 51] := by
      unfold numL Go.Lib.itoa
      rw [if_pos (by decide), w64 (by decide) (by decide), if_neg (by decide), show (Int.toNat (- -3)) = 3 from rfl, Go.Lib.decDigits_one (by decide)]
      rfl
    have a2 : numL 4 = [52] := by
      unfold numL Go.Lib.itoa
      rw [if_neg (by decide), if_neg (by decide), show (Int.toNat 4) = 4 from rfl, Go.Lib.decDigits_one (by decide)]
      rfl
    unfold textL pieceL
    simp only [List.map_cons, List.map_nil, a1, a2]
    rfl
  have hne : ¬ (mkB (textL (putEnv xs (⟨#[110]⟩ : ByteArray) 7))).toList = (mkB (textL (putEnv xs (⟨#[110]⟩ : ByteArray) (-7)))).toList := by
    rw [mk_toList, mk_toList]
    intro h
    exact putEnv_ne xs _ 7 (-7) (by decide) (textL_inj _ _ hx7 hy7 h)
  obtain ⟨sv, hsv, hsv2⟩ := sameVarsD_is (putEnv xs (⟨#[110]⟩ : ByteArray) 7) xs (by omega) (by omega) 100000000 (by omega)
  have hsv3 : sv = decide (textL (putEnv xs (⟨#[110]⟩ : ByteArray) 7) = textL xs) := by
    rw [Bool.eq_iff_iff, hsv2, decide_eq_true_iff]
    exact ⟨fun h => by rw [h], fun h => textL_inj _ _ hx7 h1.good.all h⟩
  rw [e1, Option.bind_some, hset 7 (by decide), Option.bind_some, hset (-7) (by decide), Option.bind_some, e2, Option.bind_some, implEnvText_is xs tE _ (by omega), Option.bind_some, specEnvText_is xs tE _ (by omega), Option.bind_some, if_pos rfl]
  show ((impl_EnvText.f 100000000 (putEnv xs (⟨#[110]⟩ : ByteArray) 7)).bind _ : Option _) = _
  rw [implEnvText_is _ tX _ (by omega), Option.bind_some]
  show ((impl_EnvText.f 100000000 (putEnv xs (⟨#[110]⟩ : ByteArray) (-7))).bind _ : Option _) = _
  rw [implEnvText_is _ tY _ (by omega), Option.bind_some, if_neg hne, Option.bind_some, Option.bind_some]
  show ((laws_sameVars.f 100000000 (putEnv xs (⟨#[110]⟩ : ByteArray) 7) xs).bind _ : Option _) = _
  rw [hsv, Option.bind_some, hsv3, toList_beq, if_pos (by simp), implEnvText_is _ tQ _ (by simp), Option.bind_some, hQ, mk_toList, if_pos rfl, implEnvText_is zs tZ _ (by omega), Option.bind_some, specEnvText_is zs tZ _ (by omega), Option.bind_some]
  simp

end Go.Proofs.YtnmhggdaccbbfaaDoor.Pure
