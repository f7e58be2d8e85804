/- FnExactEnvText without Go: at every list of names the program's EnvText and the reference's tell the same text. -/
import Derived.Test.YtnmhggdaccbbfaaDoorMFnExactEnvTextok
import Derived.Lib.ItoaLen
import Derived.Lib.ItoaNum
import Derived.Lib.Join
set_option linter.unusedVariables false
set_option linter.unusedSimpArgs false
set_option maxHeartbeats 400000
namespace Go.Proofs.YtnmhggdaccbbfaaDoor.Pure
open Go.RowKit Go.Proofs.YtnmhggdaccbbfaaDoor.MFnExactEnvText Go.Proofs.YtnmhggdaccbbfaaDoorW.PrintWords Go.Proofs.YtnmhggdaccbbfaaDoorW.PrintLast
/-! ### base -/
theorem w64 {n : Int} (h : -9223372036854775808 ≤ n) (h' : n ≤ 9223372036854775807) : wrap64 n = n := by unfold wrap64; omega
theorem w64_succ {i m : Nat} (h : i < m) (hm : m ≤ 140737488351232) : wrap64 ((i : Int) + 1) = ((i + 1 : Nat) : Int) := by
  rw [w64 (by omega) (by omega)]; omega
theorem w64_bt (s : ByteArray) (i : Int) : wrap64 (bt s i) = bt s i := by
  have := bt_range s i
  exact w64 (by omega) (by omega)
/-- A string's bytes as numbers. -/
def bs (s : ByteArray) : List Int := s.data.toList.map fun b => (b.toNat : Int)
theorem bs_length (s : ByteArray) : (bs s).length = s.size := by simp [bs]
theorem bs_get (s : ByteArray) (i : Nat) (h : i < s.size) : (bs s)[i]? = some (bt s i) := by
  have h2 : i < s.data.toList.length := by simpa using h
  simp only [bs, List.getElem?_map, List.getElem?_eq_getElem h2, Option.map_some]
  unfold bt
  rw [dif_pos (by simpa using h)]
  rfl
theorem bs_drop (s : ByteArray) (i : Nat) (h : i < s.size) : (bs s).drop i = bt s i :: (bs s).drop (i + 1) := by
  have h2 : i < (bs s).length := by rw [bs_length]; exact h
  rw [List.drop_eq_getElem_cons h2]
  congr 1
  have := bs_get s i h
  rw [List.getElem?_eq_getElem h2] at this
  exact Option.some.inj this
theorem bs_drop_nil (s : ByteArray) (i : Nat) (h : s.size ≤ i) : (bs s).drop i = [] := List.drop_eq_nil_of_le (by rw [bs_length]; exact h)
theorem bs_range {s : ByteArray} {c : Int} (h : c ∈ bs s) : 0 ≤ c ∧ c ≤ 255 := by
  simp only [bs, List.mem_map] at h
  obtain ⟨b, _, rfl⟩ := h
  have := b.toNat_lt
  omega
theorem bs_inj {s t : ByteArray} (h : bs s = bs t) : s = t := by
  have hd : s.data.toList = t.data.toList := by
    refine List.map_inj_right (f := fun b : UInt8 => (b.toNat : Int)) (fun a b hab => ?_) |>.1 h
    have hab2 : (a.toNat : Int) = b.toNat := hab
    exact UInt8.toNat_inj.1 (by omega)
  cases s; cases t
  simp only [ByteArray.mk.injEq]
  exact Array.toList_inj.1 hd
theorem bs_str {xs : List Int} (h : ∀ x ∈ xs, 0 ≤ x ∧ x ≤ 255) : bs (strOfNums xs) = xs := by
  unfold bs strOfNums
  simp only [List.map_map]
  conv => rhs; rw [← List.map_id xs]
  refine List.map_congr_left fun x hx => ?_
  have := h x hx
  simp only [Function.comp, id, UInt8.toNat_ofNat']
  omega
theorem str_bs (s : ByteArray) : strOfNums (bs s) = s := bs_inj (bs_str fun _ hx => bs_range hx)
theorem str_size (xs : List Int) : (strOfNums xs).size = xs.length := by
  show ((xs.map fun n => UInt8.ofNat n.toNat).toArray).size = xs.length
  simp
theorem bs_append (s t : ByteArray) : bs (s ++ t) = bs s ++ bs t := by
  simp [bs]
theorem bs_empty : bs (⟨#[]⟩ : ByteArray) = [] := rfl
theorem bt_str {xs : List Int} (h : ∀ x ∈ xs, 0 ≤ x ∧ x ≤ 255) (i : Nat) (hi : i < xs.length) : bt (strOfNums xs) i = rd xs i := by
  have h1 := bs_get (strOfNums xs) i (by rw [str_size]; exact hi)
  rw [bs_str h] at h1
  unfold rd
  rw [List.getD_eq_getElem?_getD, Int.toNat_natCast, h1]
  rfl
theorem bt_bs (s : ByteArray) (i : Int) : bt s i = rd (bs s) i := by
  unfold rd
  rw [List.getD_eq_getElem?_getD]
  by_cases h : i.toNat < s.size
  · have := bs_get s i.toNat h
    rw [this]
    unfold bt
    simp only [Int.toNat_natCast]
    rw [dif_pos h]
    rfl
  · rw [List.getElem?_eq_none (by rw [bs_length]; omega)]
    unfold bt
    rw [dif_neg h]
    rfl
theorem toList_eq {s t : ByteArray} : s.toList = t.toList ↔ s = t := by
  rw [ByteArray.toList_eq, ByteArray.toList_eq]
  constructor
  · intro h; cases s; cases t; simpa [Array.toList_inj] using h
  · rintro rfl; rfl
theorem tdiv_e {n : Int} (h : 0 ≤ n) (m : Int) : Int.tdiv n m = n / m := Int.tdiv_eq_ediv_of_nonneg h
theorem tmod_e {n : Int} (h : 0 ≤ n) (m : Int) : Int.tmod n m = n % m := Int.tmod_eq_emod_of_nonneg h

/-! ### lists -/
theorem drop_get {α : Type} (xs : List α) (i : Nat) (h : i < xs.length) : xs.drop i = xs[i] :: xs.drop (i + 1) := List.drop_eq_getElem_cons h
theorem w64_len {i n : Nat} (h : i < n) (hn : n ≤ 9223372036854775807) : wrap64 ((i : Int) + 1) = ((i + 1 : Nat) : Int) := by
  rw [w64 (by omega) (by omega)]; omega
theorem take_set {α : Type} (acc : List α) (i : Nat) (v : α) (h : i < acc.length) : (acc.set i v).take (i + 1) = acc.take i ++ [v] := by
  rw [List.take_add_one, List.getElem?_set_self h, List.take_set_of_le (Nat.le_refl i)]; rfl

/-! ### lawsVar -/
/-! what the laws' own small functions tell of names and numbers -/
theorem rdL (xs : List S59) (i : Nat) (h : i < xs.length) : rd_T59 xs (i : Int) = xs[i] := by simp [rd_T59, List.getD, h]
theorem rdI (xs : List S54) (i : Nat) (h : i < xs.length) : rd_T54 xs (i : Int) = xs[i] := by simp [rd_T54, List.getD, h]
def szOk (xs : List S59) : Prop := xs.length ≤ 1048576 ∧ ∀ y ∈ xs, y.f0.size ≤ 1048576
theorem szVarS_l0 (xs : List S59) (hx : ∀ y ∈ xs, ok59 y) (hl : xs.length ≤ 9223372036854775807) (d : Nat) : ∀ (k i : Nat) (left : Int), xs.length - i ≤ d → d < k → 0 ≤ left → left ≤ 1048576 →
    ∃ r, laws_szVarS.l0 k xs left (i : Int) = some r ∧ (0 ≤ r → r ≤ 1048576 ∧ ∀ y ∈ xs.drop i, y.f0.size ≤ 1048576) := by
  induction d with
  | zero =>
    intro k i left hd hk h0 h1
    obtain ⟨k, rfl⟩ : ∃ m, k = m + 1 := ⟨k - 1, by omega⟩
    refine ⟨left, ?_, fun _ => ⟨h1, ?_⟩⟩
    · rw [laws_szVarS.l0, if_neg (by omega)]
    · rw [List.drop_eq_nil_of_le (by omega)]; simp
  | succ d ih =>
    intro k i left hd hk h0 h1
    obtain ⟨k, rfl⟩ : ∃ m, k = m + 1 := ⟨k - 1, by omega⟩
    by_cases hi : i < xs.length
    · have hs : xs[i].f0.size ≤ 9223372036854775807 := by have := (hx xs[i] (List.getElem_mem hi)).1; unfold maxLen at this; exact this
      rw [laws_szVarS.l0, if_pos (by omega), if_pos (by omega), rdL xs i hi, w64_len hi hl]
      unfold laws_szVar.f
      rw [w64 (n := left - (xs[i].f0.size : Int)) (by omega) (by omega)]
      by_cases h2 : left - (xs[i].f0.size : Int) < 0
      · rw [if_pos h2, Option.bind_some, if_pos (by omega)]
        exact ⟨-1, rfl, fun h => absurd h (by omega)⟩
      · rw [if_neg h2, Option.bind_some, if_neg h2]
        obtain ⟨r, hr, hp⟩ := ih k (i + 1) (left - (xs[i].f0.size : Int)) (by omega) (by omega) (by omega) (by omega)
        refine ⟨r, hr, fun h => ?_⟩
        obtain ⟨p1, p2⟩ := hp h
        refine ⟨p1, fun y hy => ?_⟩
        rw [drop_get xs i hi, List.mem_cons] at hy
        rcases hy with rfl | hy
        · omega
        · exact p2 y hy
    · refine ⟨left, ?_, fun _ => ⟨h1, ?_⟩⟩
      · rw [laws_szVarS.l0, if_neg (by omega)]
      · rw [List.drop_eq_nil_of_le (by omega)]; simp
theorem szVarS_is (xs : List S59) (hx : ∀ y ∈ xs, ok59 y) (hl : xs.length ≤ 9223372036854775807) (left : Int) (h0 : 0 ≤ left) (h1 : left ≤ 1048576) (k : Nat) (hk : xs.length < k) :
    ∃ r, laws_szVarS.f k xs left = some r ∧ (0 ≤ r → r ≤ 1048576 ∧ szOk xs) := by
  unfold laws_szVarS.f
  rw [w64 (n := left - (xs.length : Int)) (by omega) (by omega)]
  by_cases h2 : left - (xs.length : Int) < 0
  · rw [if_pos h2]; exact ⟨-1, rfl, fun h => absurd h (by omega)⟩
  · rw [if_neg h2]
    obtain ⟨r, hr, hp⟩ := szVarS_l0 xs hx hl xs.length k 0 (left - (xs.length : Int)) (by omega) hk (by omega) (by omega)
    refine ⟨r, hr, fun h => ?_⟩
    obtain ⟨p1, p2⟩ := hp h
    exact ⟨p1, by omega, by simpa using p2⟩
/-- A name and its number, as the program has them. -/
def toV (x : S59) : S54 := ⟨x.f0, x.f1⟩
theorem toVarS_l0 (xs : List S59) (hl : xs.length ≤ 1048576) (d : Nat) : ∀ (k i : Nat) (acc : List S54), xs.length - i ≤ d → d < k → i ≤ xs.length → acc.length = xs.length → acc.take i = (xs.take i).map toV →
    laws_toVarS.l0 k xs acc (i : Int) = some (xs.map toV) := by
  induction d with
  | zero =>
    intro k i acc hd hk hi ha ht
    obtain ⟨k, rfl⟩ : ∃ m, k = m + 1 := ⟨k - 1, by omega⟩
    rw [laws_toVarS.l0, if_neg (by omega)]
    rw [show i = xs.length from by omega, List.take_length, ← ha, List.take_length] at ht
    rw [ht]
  | succ d ih =>
    intro k i acc hd hk hi ha ht
    obtain ⟨k, rfl⟩ : ∃ m, k = m + 1 := ⟨k - 1, by omega⟩
    by_cases hi2 : i < xs.length
    · rw [laws_toVarS.l0, if_pos (by omega), if_pos (by omega), rdL xs i hi2]
      unfold laws_toVar.f
      rw [Option.bind_some, if_pos (by omega), w64_len hi2 (by omega), show ((i : Int)).toNat = i from by omega]
      refine ih k (i + 1) _ (by omega) (by omega) (by omega) (by rw [List.length_set]; exact ha) ?_
      rw [take_set acc i _ (by omega), ht, List.take_add_one, List.getElem?_eq_getElem hi2, List.map_append]
      rfl
    · rw [laws_toVarS.l0, if_neg (by omega)]
      rw [show i = xs.length from by omega, List.take_length, ← ha, List.take_length] at ht
      rw [ht]
theorem toVarS_is (xs : List S59) (hl : xs.length ≤ 1048576) (k : Nat) (hk : xs.length < k) : laws_toVarS.f k xs = some (xs.map toV) := by
  unfold laws_toVarS.f
  rw [if_pos (by omega), if_pos (by omega)]
  exact toVarS_l0 xs hl xs.length k 0 _ (by omega) hk (by omega) (by simp) (by simp)
theorem eqVarS_l0 (xs : List S54) (hl : xs.length ≤ 9223372036854775807) (d : Nat) : ∀ (k i : Nat), xs.length - i ≤ d → d < k → laws_eqVarS.l0 k xs xs (i : Int) = some true := by
  induction d with
  | zero =>
    intro k i hd hk
    obtain ⟨k, rfl⟩ : ∃ m, k = m + 1 := ⟨k - 1, by omega⟩
    rw [laws_eqVarS.l0, if_neg (by omega)]
  | succ d ih =>
    intro k i hd hk
    obtain ⟨k, rfl⟩ : ∃ m, k = m + 1 := ⟨k - 1, by omega⟩
    by_cases hi : i < xs.length
    · rw [laws_eqVarS.l0, if_pos (by omega), if_pos (by omega), if_pos (by omega)]
      unfold laws_eqVar.f
      simp only [if_true, Option.bind_some]
      rw [w64_len hi hl]
      exact ih k (i + 1) (by omega) (by omega)
    · rw [laws_eqVarS.l0, if_neg (by omega)]
theorem eqVarS_self (xs : List S54) (hl : xs.length ≤ 9223372036854775807) (k : Nat) (hk : xs.length < k) : laws_eqVarS.f k xs xs = some true := by
  unfold laws_eqVarS.f
  rw [if_pos rfl]
  exact eqVarS_l0 xs hl xs.length k 0 (by omega) hk

/-! ### mkB -/
def mkB (l : List UInt8) : ByteArray := ⟨l.toArray⟩
theorem data_mk (l : List UInt8) : (mkB l).data.toList = l := by simp [mkB]
theorem ba_ext {x y : ByteArray} (h : x.data.toList = y.data.toList) : x = y := by
  cases x; cases y
  simp only [ByteArray.mk.injEq]
  exact Array.toList_inj.1 h
theorem mk_data (s : ByteArray) : mkB s.data.toList = s := ba_ext (data_mk _)
theorem mk_append (a b : List UInt8) : mkB a ++ mkB b = mkB (a ++ b) := by
  refine ba_ext ?_
  rw [data_mk, ByteArray.data_append, Array.toList_append, data_mk, data_mk]
theorem mk_size (l : List UInt8) : (mkB l).size = l.length := rfl
theorem mk_inj {a b : List UInt8} (h : mkB a = mkB b) : a = b := by rw [← data_mk a, h, data_mk]
theorem mk_toList (l : List UInt8) : (mkB l).toList = l := by rw [ByteArray.toList_eq]; exact data_mk l

/-! ### specDecimal -/
/-! the reference's decimal numeral is the library's -/
def digs (m : Nat) : List UInt8 := if m = 0 then [] else Go.Lib.decDigits m
theorem digs_step (m : Nat) (h : m ≠ 0) : digs m = digs (m / 10) ++ [UInt8.ofNat (48 + m % 10)] := by
  unfold digs
  rw [if_neg h, Go.Lib.decDigits]
  by_cases h10 : m < 10
  · rw [dif_pos h10, if_pos (by omega), Nat.mod_eq_of_lt h10]; rfl
  · rw [dif_neg h10, if_neg (by omega)]
theorem figure_is (a : Nat) (h : a < 10) : spec_l01Figure.f (a : Int) = some ((48 + a : Nat) : Int) := by
  unfold spec_l01Figure.f
  rw [if_pos (by omega), w64 (by omega) (by omega)]
  congr 1
  omega
theorem str_cons (a : Nat) (l : List UInt8) : strOfNums [(a : Int)] ++ (⟨l.toArray⟩ : ByteArray) = ⟨(UInt8.ofNat a :: l).toArray⟩ := by
  have h : (strOfNums [(a : Int)] ++ (⟨l.toArray⟩ : ByteArray)).data.toList = (⟨(UInt8.ofNat a :: l).toArray⟩ : ByteArray).data.toList := by simp [strOfNums]
  revert h
  generalize strOfNums [(a : Int)] ++ (⟨l.toArray⟩ : ByteArray) = x
  generalize (⟨(UInt8.ofNat a :: l).toArray⟩ : ByteArray) = y
  intro h
  cases x; cases y
  simp only [ByteArray.mk.injEq]
  exact Array.toList_inj.1 h
theorem minus_cons (l : List UInt8) : (⟨#[45]⟩ : ByteArray) ++ (⟨l.toArray⟩ : ByteArray) = ⟨(45 :: l).toArray⟩ := str_cons 45 l
theorem tmod_abs (x : Int) : (Int.tmod x 10).natAbs = x.natAbs % 10 := by
  rw [Int.natAbs_tmod]; rfl
theorem tdiv_abs (x : Int) : (Int.tdiv x 10).natAbs = x.natAbs / 10 := by
  rw [Int.natAbs_tdiv]; rfl
theorem tmod_nonneg_iff (x : Int) : (0 ≤ x → 0 ≤ Int.tmod x 10) ∧ (x ≤ 0 → Int.tmod x 10 ≤ 0) := by
  refine ⟨fun h => Int.tmod_nonneg 10 h, fun h => ?_⟩
  have := Int.tmod_nonneg 10 (show 0 ≤ -x by omega)
  rw [Int.neg_tmod] at this
  omega
theorem tdiv_range (x : Int) (h0 : -9223372036854775808 ≤ x) (h1 : x ≤ 9223372036854775807) : -9223372036854775808 ≤ Int.tdiv x 10 ∧ Int.tdiv x 10 ≤ 9223372036854775807 := by
  have := tdiv_abs x
  omega
theorem specDecimal_l0 (d : Nat) : ∀ (k : Nat) (x : Int) (below : Bool) (acc : List UInt8), x.natAbs < 10 ^ d → -9223372036854775808 ≤ x → x ≤ 9223372036854775807 → acc.length + d ≤ 1000 → d < k →
    spec_Decimal.l0 k x below ⟨acc.toArray⟩ = some (if below = true then ⟨(45 :: (digs x.natAbs ++ acc)).toArray⟩ else ⟨(digs x.natAbs ++ acc).toArray⟩) := by
  have hsz : ∀ l : List UInt8, (⟨l.toArray⟩ : ByteArray).size = l.length := fun l => rfl
  have hend : ∀ (k : Nat) (below : Bool) (acc : List UInt8), acc.length ≤ 1000 → 1 ≤ k → spec_Decimal.l0 k 0 below ⟨acc.toArray⟩ = some (if below = true then ⟨(45 :: (digs 0 ++ acc)).toArray⟩ else ⟨(digs 0 ++ acc).toArray⟩) := by
    intro k below acc ha hk
    obtain ⟨k, rfl⟩ : ∃ k', k = k' + 1 := ⟨k - 1, by omega⟩
    rw [spec_Decimal.l0, if_pos rfl]
    cases below with
    | true => rw [if_pos rfl, if_pos rfl, if_pos (by rw [hsz]; omega), minus_cons]; rfl
    | false => rw [if_neg (by simp), if_neg (by simp)]; rfl
  induction d with
  | zero =>
    intro k x below acc hx h0 h1 ha hk
    have : x = 0 := by simp only [Nat.pow_zero] at hx; omega
    subst this
    exact hend k below acc (by omega) (by omega)
  | succ d ih =>
    intro k x below acc hx h0 h1 ha hk
    by_cases hz : x = 0
    · subst hz; exact hend k below acc (by omega) (by omega)
    · obtain ⟨k, rfl⟩ : ∃ k', k = k' + 1 := ⟨k - 1, by omega⟩
      have hm := tmod_abs x
      have hq := tdiv_abs x
      obtain ⟨q0, q1⟩ := tdiv_range x h0 h1
      have hne : x.natAbs ≠ 0 := by omega
      have hlt : x.natAbs % 10 < 10 := Nat.mod_lt _ (by omega)
      have hrec := ih k (Int.tdiv x 10) below (UInt8.ofNat (48 + x.natAbs % 10) :: acc) (by rw [hq]; rw [Nat.pow_succ] at hx; omega) q0 q1 (by simp only [List.length_cons]; omega) (by omega)
      have hfin : spec_Decimal.l0 k (Int.tdiv x 10) below (strOfNums [((48 + x.natAbs % 10 : Nat) : Int)] ++ ⟨acc.toArray⟩) = some (if below = true then ⟨(45 :: (digs x.natAbs ++ acc)).toArray⟩ else ⟨(digs x.natAbs ++ acc).toArray⟩) := by
        rw [str_cons, hrec, hq, digs_step _ hne]
        simp only [List.append_assoc, List.cons_append, List.nil_append]
      have h1' : (strOfNums [((48 + x.natAbs % 10 : Nat) : Int)]).size = 1 := str_size _
      rw [spec_Decimal.l0, if_neg hz, w64 q0 q1]
      by_cases hneg : Int.tmod x 10 < 0
      · have e : wrap64 (-(Int.tmod x 10)) = ((x.natAbs % 10 : Nat) : Int) := by rw [w64 (by omega) (by omega)]; omega
        rw [if_pos hneg, e, figure_is _ hlt, Option.bind_some, Option.bind_some, if_pos (by rw [h1', hsz]; omega)]
        exact hfin
      · have e : Int.tmod x 10 = ((x.natAbs % 10 : Nat) : Int) := by omega
        rw [if_neg hneg, e, figure_is _ hlt, Option.bind_some, Option.bind_some, if_pos (by rw [h1', hsz]; omega)]
        exact hfin
theorem specDecimal_is (n : Int) (h0 : -9223372036854775808 ≤ n) (h1 : n ≤ 9223372036854775807) (k : Nat) (hk : 30 ≤ k) : spec_Decimal.f k n = some ⟨(Go.Lib.itoa n).toArray⟩ := by
  unfold spec_Decimal.f Go.Lib.itoa
  by_cases hz : n = 0
  · subst hz
    rw [if_pos rfl, if_neg (by omega)]
    have : Go.Lib.decDigits (Int.toNat 0) = [48] := Go.Lib.decDigits_one (by decide)
    rw [this]
  · have h := specDecimal_l0 20 k n (decide (n < 0)) [] (by have : (10 : Nat) ^ 20 = 100000000000000000000 := by decide
                                                            omega) h0 h1 (by simp) (by omega)
    rw [if_neg hz]
    refine h.trans ?_
    rw [List.append_nil]
    have hd : digs n.natAbs = Go.Lib.decDigits n.natAbs := by unfold digs; rw [if_neg (by omega)]
    rw [hd]
    by_cases hn : n < 0
    · rw [if_pos (by simpa using hn), if_pos hn]
    · rw [if_neg (by simpa using hn), if_neg hn, show n.natAbs = n.toNat by omega]

/-! ### implDecimal -/
theorem implDecimal_is (n : Int) (h0 : -9223372036854775808 ≤ n) (h1 : n ≤ 9223372036854775807) : impl_Decimal.f n = some ⟨(Go.Lib.itoa n).toArray⟩ := by
  unfold impl_Decimal.f strconv_Itoa.f
  rw [if_pos h0, if_pos h1, Option.bind_some]

/-! ### envText -/
def numL (n : Int) : List UInt8 := if n < 0 then 45 :: Go.Lib.itoa (wrap64 (-n)) else Go.Lib.itoa n
def pieceL (v : S54) : List UInt8 := v.f0.data.toList ++ 61 :: numL v.f1
def textL (xs : List S54) : List UInt8 := Go.Lib.join (xs.map pieceL) [44]
theorem rdV_ (xs : List S54) (i : Nat) (h : i < xs.length) : rd_T54 xs (i : Int) = xs[i] := by simp [rd_T54, List.getD, h]
theorem w1_ (i : Nat) (h : i ≤ 1048577) : wrap64 ((i : Int) + 1) = ((i + 1 : Nat) : Int) := by rw [w64 (by omega) (by omega)]; omega
theorem wrap_range (x : Int) : -9223372036854775808 ≤ wrap64 x ∧ wrap64 x ≤ 9223372036854775807 := by unfold wrap64; omega
theorem numL_length (n : Int) (h0 : -9223372036854775808 ≤ n) (h1 : n ≤ 9223372036854775807) : (numL n).length ≤ 22 := by
  unfold numL
  split
  · have := Go.Lib.itoa_length_le (wrap64 (-n)) (wrap_range _).1 (wrap_range _).2
    simp only [List.length_cons]; omega
  · have := Go.Lib.itoa_length_le n h0 h1
    omega
theorem l03Num_is (n : Int) (h0 : -9223372036854775808 ≤ n) (h1 : n ≤ 9223372036854775807) (k : Nat) (hk : 30 ≤ k) : spec_l03Num.f k n = some (mkB (numL n)) := by
  unfold spec_l03Num.f numL
  by_cases h : n < 0
  · have hl := Go.Lib.itoa_length_le (wrap64 (-n)) (wrap_range _).1 (wrap_range _).2
    have hs : (⟨(Go.Lib.itoa (wrap64 (-n))).toArray⟩ : ByteArray).size = (Go.Lib.itoa (wrap64 (-n))).length := rfl
    rw [if_pos h, if_pos h, specDecimal_is _ (wrap_range _).1 (wrap_range _).2 k hk, Option.bind_some, if_pos (by rw [hs]; omega)]
    exact congrArg some (mk_append [45] _)
  · rw [if_neg h, if_neg h, specDecimal_is n h0 h1 k hk, Option.bind_some]; rfl
theorem c44_ : (⟨#[44]⟩ : ByteArray) = mkB [44] := rfl
theorem c61_ : (⟨#[61]⟩ : ByteArray) = mkB [61] := rfl
theorem c45_ : (⟨#[45]⟩ : ByteArray) = mkB [45] := rfl
theorem joinTail_cons (x : List UInt8) (r : List (List UInt8)) : Go.Lib.joinTail [44] (x :: r) = 44 :: x ++ Go.Lib.joinTail [44] r := by simp [Go.Lib.joinTail]
/-- What is known of a list of names: few, each short, the numbers ints. -/
def Txt (xs : List S54) : Prop := xs.length ≤ 1048576 ∧ ∀ v ∈ xs, v.f0.size ≤ 1048576 ∧ -9223372036854775808 ≤ v.f1 ∧ v.f1 ≤ 9223372036854775807
theorem specEnvText_l0 (xs : List S54) (hx : Txt xs) (d : Nat) : ∀ (k i : Nat) (acc : List UInt8), xs.length - i ≤ d → i ≤ xs.length → 0 < i → acc.length ≤ i * 1048700 → d + 31 ≤ k →
    spec_EnvText.l0 k xs (mkB acc) (i : Int) = some (mkB (acc ++ Go.Lib.joinTail [44] ((xs.drop i).map pieceL))) := by
  have hxl := hx.1
  induction d with
  | zero =>
    intro k i acc hd hi hp ha hk
    obtain ⟨k, rfl⟩ : ∃ k', k = k' + 1 := ⟨k - 1, by omega⟩
    rw [spec_EnvText.l0, if_neg (by omega), List.drop_eq_nil_of_le (by omega)]
    simp [Go.Lib.joinTail]
  | succ d ih =>
    intro k i acc hd hi hp ha hk
    obtain ⟨k, rfl⟩ : ∃ k', k = k' + 1 := ⟨k - 1, by omega⟩
    by_cases hlt : i < xs.length
    · have hv := hx.2 xs[i] (List.getElem_mem hlt)
      have hn := numL_length _ hv.2.1 hv.2.2
      have hacc : acc.length ≤ 1048576 * 1048700 := Nat.le_trans ha (Nat.mul_le_mul_right _ (by omega))
      have e0 : xs[i].f0 = mkB xs[i].f0.data.toList := (mk_data _).symm
      have hs : xs[i].f0.data.toList.length ≤ 1048576 := hv.1
      have hpl : (44 :: pieceL xs[i]).length ≤ 1048700 := by
        unfold pieceL
        simp only [List.length_cons, List.length_append]; omega
      have hrec := ih k (i + 1) (acc ++ 44 :: pieceL xs[i]) (by omega) (by omega) (by omega) (by rw [List.length_append, Nat.succ_mul]; omega) (by omega)
      rw [drop_get xs i hlt, List.map_cons, joinTail_cons, spec_EnvText.l0, if_pos (by omega), if_pos (by omega), rdV_ xs i hlt, l03Num_is _ hv.2.1 hv.2.2 k (by omega), w1_ i (by omega), e0, c44_, c61_]
      simp only [mk_append, mk_size, Option.bind_some]
      rw [if_pos (by omega), if_pos (by omega), if_pos (by first | omega | (simp only [List.length_append, List.length_cons, List.length_nil]; omega)), if_pos (by first | omega | (simp only [List.length_append, List.length_cons, List.length_nil]; omega)), if_pos (by first | omega | (simp only [List.length_append, List.length_cons, List.length_nil]; omega))]
      have e1 : (((acc ++ [44]) ++ xs[i].f0.data.toList) ++ [61]) ++ numL xs[i].f1 = acc ++ 44 :: pieceL xs[i] := by
        unfold pieceL
        simp only [List.append_assoc, List.cons_append, List.nil_append]
      rw [e1, hrec]
      simp only [List.append_assoc, List.cons_append]
    · exact (by
        rw [spec_EnvText.l0, if_neg (by omega), List.drop_eq_nil_of_le (by omega)]
        simp [Go.Lib.joinTail])
theorem specEnvText_is (xs : List S54) (hx : Txt xs) (k : Nat) (hk : xs.length + 40 ≤ k) : spec_EnvText.f k xs = some (mkB (textL xs)) := by
  have hxl := hx.1
  unfold spec_EnvText.f textL
  obtain ⟨k, rfl⟩ : ∃ k', k = k' + 1 := ⟨k - 1, by omega⟩
  cases xs with
  | nil => rw [spec_EnvText.l0, if_neg (by simp)]; simp [Go.Lib.join]; rfl
  | cons v l =>
    have hv := hx.2 v (by simp)
    have hn := numL_length _ hv.2.1 hv.2.2
    have e0 : v.f0 = mkB v.f0.data.toList := (mk_data _).symm
    have hs : v.f0.data.toList.length ≤ 1048576 := hv.1
    have hr : rd_T54 (v :: l) 0 = v := rdV_ (v :: l) 0 (by simp)
    have hpl : (pieceL v).length ≤ 1048700 := by
      unfold pieceL
      simp only [List.length_cons, List.length_append]; omega
    have hrec := specEnvText_l0 (v :: l) hx (v :: l).length k 1 (pieceL v) (by simp only [List.length_cons]; omega) (by simp only [List.length_cons]; omega) (by omega) (by omega) (by simp only [List.length_cons] at *; omega)
    rw [List.map_cons, Go.Lib.join_cons, spec_EnvText.l0, if_pos (by simp only [List.length_cons]; omega), if_neg (by omega), if_pos (by omega), hr, l03Num_is _ hv.2.1 hv.2.2 k (by simp only [List.length_cons] at *; omega), show wrap64 ((0 : Int) + 1) = ((1 : Nat) : Int) from w1_ 0 (by omega), e0, c61_, show (⟨#[]⟩ : ByteArray) = mkB [] from rfl]
    simp only [mk_append, mk_size, Option.bind_some, List.nil_append]
    rw [if_pos (by first | omega | (simp only [List.length_append, List.length_cons, List.length_nil]; omega)), if_pos (by first | omega | (simp only [List.length_append, List.length_cons, List.length_nil]; omega)), if_pos (by first | omega | (simp only [List.length_append, List.length_cons, List.length_nil]; omega))]
    have e1 : (v.f0.data.toList ++ [61]) ++ numL v.f1 = pieceL v := by unfold pieceL; simp only [List.append_assoc, List.cons_append, List.nil_append]
    rw [e1, hrec]
    rfl
theorem joinTail_le (B : Nat) : ∀ (l : List (List UInt8)), (∀ x ∈ l, x.length ≤ B) → (Go.Lib.joinTail [44] l).length ≤ l.length * (B + 1)
  | [], _ => by simp [Go.Lib.joinTail]
  | x :: l, h => by
    have := joinTail_le B l (fun y hy => h y (List.mem_cons_of_mem _ hy))
    have hx := h x (by simp)
    rw [joinTail_cons, List.length_append, List.length_cons, List.length_cons, Nat.succ_mul]
    omega
theorem join_le (B : Nat) (l : List (List UInt8)) (h : ∀ x ∈ l, x.length ≤ B) : (Go.Lib.join l [44]).length ≤ l.length * (B + 1) := by
  cases l with
  | nil => simp [Go.Lib.join]
  | cons x l =>
    have := joinTail_le B l (fun y hy => h y (List.mem_cons_of_mem _ hy))
    have hx := h x (by simp)
    rw [Go.Lib.join_cons, List.length_append, List.length_cons, Nat.succ_mul]
    omega
theorem implEnvText_l0 (xs : List S54) (hx : Txt xs) (d : Nat) : ∀ (k i : Nat) (acc : List ByteArray), xs.length - i ≤ d → i ≤ xs.length → acc = (xs.take i).map (fun v => mkB (pieceL v)) → d + 1 ≤ k →
    impl_EnvText.l0 k acc xs (xs.length : Int) (i : Int) = some (mkB (textL xs)) := by
  have hxl := hx.1
  have hend : ∀ (k i : Nat) (acc : List ByteArray), xs.length ≤ i → acc = (xs.take i).map (fun v => mkB (pieceL v)) → 1 ≤ k → impl_EnvText.l0 k acc xs (xs.length : Int) (i : Int) = some (mkB (textL xs)) := by
    intro k i acc hi ha hk
    obtain ⟨k, rfl⟩ : ∃ k', k = k' + 1 := ⟨k - 1, by omega⟩
    have hl : acc.map (·.data.toList) = xs.map pieceL := by
      rw [ha, List.take_of_length_le hi, List.map_map]
      refine List.map_congr_left fun v _ => ?_
      exact data_mk _
    have hlen : acc.length = xs.length := by rw [ha, List.length_map, List.take_of_length_le hi]
    have hj := join_le 1048700 (xs.map pieceL) (fun x hx' => by
      obtain ⟨v, hv, rfl⟩ := List.mem_map.1 hx'
      have hv' := hx.2 v hv
      have hn := numL_length _ hv'.2.1 hv'.2.2
      have hs : v.f0.data.toList.length ≤ 1048576 := hv'.1
      unfold pieceL
      simp only [List.length_cons, List.length_append]; omega)
    rw [List.length_map] at hj
    have hj2 : (Go.Lib.join (xs.map pieceL) [44]).length ≤ 1048576 * 1048701 := Nat.le_trans hj (Nat.mul_le_mul_right _ hxl)
    rw [impl_EnvText.l0, if_neg (by omega)]
    unfold strings_Join.f
    rw [hl]
    rw [if_pos (by show (Go.Lib.join (xs.map pieceL) [44]).length ≤ _; omega), if_pos (by omega), Option.bind_some]
    rfl
  induction d with
  | zero => exact fun k i acc hd hi ha hk => hend k i acc (by omega) ha (by omega)
  | succ d ih =>
    intro k i acc hd hi ha hk
    by_cases hlt : i < xs.length
    · obtain ⟨k, rfl⟩ : ∃ k', k = k' + 1 := ⟨k - 1, by omega⟩
      have hv := hx.2 xs[i] (List.getElem_mem hlt)
      have hn := numL_length _ hv.2.1 hv.2.2
      have e0 : xs[i].f0 = mkB xs[i].f0.data.toList := (mk_data _).symm
      have hs : xs[i].f0.data.toList.length ≤ 1048576 := hv.1
      have hal : acc.length ≤ 1048576 := by rw [ha, List.length_map, List.length_take]; omega
      have hrec := ih k (i + 1) (acc ++ [mkB (pieceL xs[i])]) (by omega) (by omega) (by rw [ha, List.take_add_one, List.getElem?_eq_getElem hlt, List.map_append]; rfl) (by omega)
      have hd1 : ∀ n : Int, (⟨(Go.Lib.itoa n).toArray⟩ : ByteArray) = mkB (Go.Lib.itoa n) := fun _ => rfl
      rw [impl_EnvText.l0, if_pos (by omega), if_pos (by omega), if_pos (by omega), rdV_ xs i hlt, implDecimal_is _ hv.2.1 hv.2.2, Option.bind_some, w1_ i (by omega)]
      by_cases hneg : xs[i].f1 < 0
      · have hl := Go.Lib.itoa_length_le (wrap64 (-xs[i].f1)) (wrap_range _).1 (wrap_range _).2
        rw [if_pos hneg, implDecimal_is _ (wrap_range _).1 (wrap_range _).2, Option.bind_some, hd1, e0, c45_, c61_]
        simp only [mk_append, mk_size]
        rw [if_pos (by omega), if_pos (by omega), if_pos (by first | omega | (simp only [List.length_append, List.length_cons, List.length_nil]; omega)), if_pos (by omega)]
        have e1 : (xs[i].f0.data.toList ++ [61]) ++ ([45] ++ Go.Lib.itoa (wrap64 (-xs[i].f1))) = pieceL xs[i] := by
          unfold pieceL numL
          rw [if_pos hneg]
          simp only [List.append_assoc, List.cons_append, List.nil_append]
        rw [e1]; exact hrec
      · have hl := Go.Lib.itoa_length_le xs[i].f1 hv.2.1 hv.2.2
        rw [if_neg hneg, hd1, e0, c61_]
        simp only [mk_append, mk_size]
        rw [if_pos (by omega), if_pos (by first | omega | (simp only [List.length_append, List.length_cons, List.length_nil]; omega)), if_pos (by omega)]
        have e1 : (xs[i].f0.data.toList ++ [61]) ++ Go.Lib.itoa xs[i].f1 = pieceL xs[i] := by
          unfold pieceL numL
          rw [if_neg hneg]
          simp only [List.append_assoc, List.cons_append, List.nil_append]
        rw [e1]; exact hrec
    · exact hend k i acc (by omega) ha (by omega)
theorem implEnvText_is (xs : List S54) (hx : Txt xs) (k : Nat) (hk : xs.length + 1 ≤ k) : impl_EnvText.f k xs = some (mkB (textL xs)) := by
  unfold impl_EnvText.f
  exact implEnvText_l0 xs hx xs.length k 0 [] (by omega) (by omega) (by simp) hk

/-! ### FnExactEnvText -/
theorem FnExactEnvText : laws_FnExactEnvText.Pure := by
  intro xs hx hl
  have hl : xs.length ≤ 9223372036854775807 := by unfold maxLen at hl; exact hl
  refine ⟨xs.length + 1048700, ?_⟩
  unfold laws_FnExactEnvText.f
  obtain ⟨r, hr, hp⟩ := szVarS_is xs hx hl 1048576 (by omega) (by omega) (xs.length + 1048700) (by omega)
  rw [hr, Option.bind_some]
  by_cases h0 : r < 0
  · rw [if_pos h0]
  · obtain ⟨hz, hs⟩ := (hp (by omega)).2
    have hT : Txt (xs.map toV) := by
      refine ⟨by rw [List.length_map]; exact hz, fun y hy => ?_⟩
      obtain ⟨x, hx2, rfl⟩ := List.mem_map.1 hy
      have hw := (hx x hx2).2
      simp only [Lit.wf] at hw
      rw [Bool.and_eq_true] at hw
      exact ⟨hs x hx2, of_decide_eq_true hw.1, of_decide_eq_true hw.2⟩
    rw [if_neg h0, toVarS_is xs hz _ (by omega), Option.bind_some, specEnvText_is _ hT _ (by rw [List.length_map]; omega), Option.bind_some, Option.bind_some,
      implEnvText_is _ hT _ (by rw [List.length_map]; omega), Option.bind_some, if_pos rfl, Option.bind_some,
      eqVarS_self _ (by rw [List.length_map]; exact hl) _ (by rw [List.length_map]; omega)]
    simp

end Go.Proofs.YtnmhggdaccbbfaaDoor.Pure
