/- FnExactReadDecimal without Go: at every text the program's ReadDecimal and the reference's answer the same. -/
import Derived.Test.YtkbgmojomgelbaaDoorMFnExactReadDecimalx1
import Derived.Lib.AtoiAll
import Derived.Lib.ItoaNum
set_option linter.unusedVariables false
set_option linter.unusedSimpArgs false
set_option maxHeartbeats 400000
namespace Go.Proofs.YtkbgmojomgelbaaDoor.Pure
open Go.RowKit Go.Proofs.YtkbgmojomgelbaaDoor.MFnExactReadDecimal Go.Proofs.YtkbgmojomgelbaaDoorW.PrintWords Go.Proofs.YtkbgmojomgelbaaDoorW.PrintLast
/-! ### base -/
theorem w64 {n : Int} (h : -9223372036854775808 ≤ n) (h' : n ≤ 9223372036854775807) : wrap64 n = n := by unfold wrap64; omega
theorem w64_succ {i m : Nat} (h : i < m) (hm : m ≤ 140737488351232) : wrap64 ((i : Int) + 1) = ((i + 1 : Nat) : Int) := by
  rw [w64 (by omega) (by omega)]; omega
theorem w64_bt (s : ByteArray) (i : Int) : wrap64 (bt s i) = bt s i := by
  have := bt_range s i
  exact w64 (by omega) (by omega)
/-- A string's bytes as numbers. -/
def bs (s : ByteArray) : List Int := s.data.toList.map fun b => (b.toNat : Int)
theorem bs_length (s : ByteArray) : (bs s).length = s.size := by simp [bs]
theorem bs_get (s : ByteArray) (i : Nat) (h : i < s.size) : (bs s)[i]? = some (bt s i) := by
  have h2 : i < s.data.toList.length := by simpa using h
  simp only [bs, List.getElem?_map, List.getElem?_eq_getElem h2, Option.map_some]
  unfold bt
  rw [dif_pos (by simpa using h)]
  rfl
theorem bs_drop (s : ByteArray) (i : Nat) (h : i < s.size) : (bs s).drop i = bt s i :: (bs s).drop (i + 1) := by
  have h2 : i < (bs s).length := by rw [bs_length]; exact h
  rw [List.drop_eq_getElem_cons h2]
  congr 1
  have := bs_get s i h
  rw [List.getElem?_eq_getElem h2] at this
  exact Option.some.inj this
theorem bs_drop_nil (s : ByteArray) (i : Nat) (h : s.size ≤ i) : (bs s).drop i = [] := List.drop_eq_nil_of_le (by rw [bs_length]; exact h)
theorem bs_range {s : ByteArray} {c : Int} (h : c ∈ bs s) : 0 ≤ c ∧ c ≤ 255 := by
  simp only [bs, List.mem_map] at h
  obtain ⟨b, _, rfl⟩ := h
  have := b.toNat_lt
  omega
theorem bs_inj {s t : ByteArray} (h : bs s = bs t) : s = t := by
  have hd : s.data.toList = t.data.toList := by
    refine List.map_inj_right (f := fun b : UInt8 => (b.toNat : Int)) (fun a b hab => ?_) |>.1 h
    have hab2 : (a.toNat : Int) = b.toNat := hab
    exact UInt8.toNat_inj.1 (by omega)
  cases s; cases t
  simp only [ByteArray.mk.injEq]
  exact Array.toList_inj.1 hd
theorem bs_str {xs : List Int} (h : ∀ x ∈ xs, 0 ≤ x ∧ x ≤ 255) : bs (strOfNums xs) = xs := by
  unfold bs strOfNums
  simp only [List.map_map]
  conv => rhs; rw [← List.map_id xs]
  refine List.map_congr_left fun x hx => ?_
  have := h x hx
  simp only [Function.comp, id, UInt8.toNat_ofNat']
  omega
theorem str_bs (s : ByteArray) : strOfNums (bs s) = s := bs_inj (bs_str fun _ hx => bs_range hx)
theorem str_size (xs : List Int) : (strOfNums xs).size = xs.length := by
  show ((xs.map fun n => UInt8.ofNat n.toNat).toArray).size = xs.length
  simp
theorem bs_append (s t : ByteArray) : bs (s ++ t) = bs s ++ bs t := by
  simp [bs]
theorem bs_empty : bs (⟨#[]⟩ : ByteArray) = [] := rfl
theorem bt_str {xs : List Int} (h : ∀ x ∈ xs, 0 ≤ x ∧ x ≤ 255) (i : Nat) (hi : i < xs.length) : bt (strOfNums xs) i = rd xs i := by
  have h1 := bs_get (strOfNums xs) i (by rw [str_size]; exact hi)
  rw [bs_str h] at h1
  unfold rd
  rw [List.getD_eq_getElem?_getD, Int.toNat_natCast, h1]
  rfl
theorem bt_bs (s : ByteArray) (i : Int) : bt s i = rd (bs s) i := by
  unfold rd
  rw [List.getD_eq_getElem?_getD]
  by_cases h : i.toNat < s.size
  · have := bs_get s i.toNat h
    rw [this]
    unfold bt
    simp only [Int.toNat_natCast]
    rw [dif_pos h]
    rfl
  · rw [List.getElem?_eq_none (by rw [bs_length]; omega)]
    unfold bt
    rw [dif_neg h]
    rfl
theorem toList_eq {s t : ByteArray} : s.toList = t.toList ↔ s = t := by
  rw [ByteArray.toList_eq, ByteArray.toList_eq]
  constructor
  · intro h; cases s; cases t; simpa [Array.toList_inj] using h
  · rintro rfl; rfl
theorem tdiv_e {n : Int} (h : 0 ≤ n) (m : Int) : Int.tdiv n m = n / m := Int.tdiv_eq_ediv_of_nonneg h
theorem tmod_e {n : Int} (h : 0 ≤ n) (m : Int) : Int.tmod n m = n % m := Int.tmod_eq_emod_of_nonneg h

/-! ### mkB -/
def mkB (l : List UInt8) : ByteArray := ⟨l.toArray⟩
theorem data_mk (l : List UInt8) : (mkB l).data.toList = l := by simp [mkB]
theorem ba_ext {x y : ByteArray} (h : x.data.toList = y.data.toList) : x = y := by
  cases x; cases y
  simp only [ByteArray.mk.injEq]
  exact Array.toList_inj.1 h
theorem mk_data (s : ByteArray) : mkB s.data.toList = s := ba_ext (data_mk _)
theorem mk_append (a b : List UInt8) : mkB a ++ mkB b = mkB (a ++ b) := by
  refine ba_ext ?_
  rw [data_mk, ByteArray.data_append, Array.toList_append, data_mk, data_mk]
theorem mk_size (l : List UInt8) : (mkB l).size = l.length := by
  have h : (mkB l).data.toList.length = l.length := by rw [data_mk]
  exact h
theorem mk_inj {a b : List UInt8} (h : mkB a = mkB b) : a = b := by rw [← data_mk a, h, data_mk]
theorem mk_toList (l : List UInt8) : (mkB l).toList = l := by rw [ByteArray.toList_eq]; exact data_mk l

/-! ### decInj -/
/-! decimal numerals: their figures, their value -/
theorem dec_ind {P : Nat → List UInt8 → Prop} (h1 : ∀ u, u < 10 → P u [UInt8.ofNat (48 + u)]) (h2 : ∀ u, 10 ≤ u → P (u / 10) (Go.Lib.decDigits (u / 10)) → P u (Go.Lib.decDigits (u / 10) ++ [UInt8.ofNat (48 + u % 10)])) (u : Nat) : P u (Go.Lib.decDigits u) := by
  induction u using Nat.strongRecOn with
  | _ u ih =>
    rw [Go.Lib.decDigits]
    by_cases h : u < 10
    · rw [dif_pos h]; exact h1 u h
    · rw [dif_neg h]; exact h2 u (by omega) (ih (u / 10) (by omega))
theorem fig_nat (r : Nat) (h : r < 10) : (UInt8.ofNat (48 + r)).toNat = 48 + r := by
  rw [UInt8.toNat_ofNat']; omega
theorem dec_figs (u : Nat) : ∀ b ∈ Go.Lib.decDigits u, 48 ≤ b.toNat ∧ b.toNat ≤ 57 := by
  refine dec_ind (P := fun _ l => ∀ b ∈ l, 48 ≤ b.toNat ∧ b.toNat ≤ 57) ?_ ?_ u
  · intro u hu b hb
    rw [List.mem_singleton] at hb
    rw [hb, fig_nat u hu]; omega
  · intro u hu ih b hb
    rw [List.mem_append, List.mem_singleton] at hb
    rcases hb with hb | hb
    · exact ih b hb
    · rw [hb, fig_nat _ (Nat.mod_lt _ (by omega))]; omega
/-- What figures are worth. -/
def worth (l : List UInt8) : Nat := l.foldl (fun a b => 10 * a + (b.toNat - 48)) 0
theorem worth_dec (u : Nat) : worth (Go.Lib.decDigits u) = u := by
  refine dec_ind (P := fun u l => worth l = u) ?_ ?_ u
  · intro u hu
    show 10 * 0 + ((UInt8.ofNat (48 + u)).toNat - 48) = u
    rw [fig_nat u hu]; omega
  · intro u hu ih
    unfold worth at ih ⊢
    rw [List.foldl_append, ih]
    show 10 * (u / 10) + ((UInt8.ofNat (48 + u % 10)).toNat - 48) = u
    rw [fig_nat _ (Nat.mod_lt _ (by omega))]; omega
theorem dec_inj {u v : Nat} (h : Go.Lib.decDigits u = Go.Lib.decDigits v) : u = v := by rw [← worth_dec u, h, worth_dec]
theorem dec_ne_nil (u : Nat) : Go.Lib.decDigits u ≠ [] := by
  refine dec_ind (P := fun _ l => l ≠ []) ?_ ?_ u
  · intro u _; simp
  · intro u _ _; simp

/-! ### specDecimal -/
/-! the reference's decimal numeral is the library's -/
def digs (m : Nat) : List UInt8 := if m = 0 then [] else Go.Lib.decDigits m
theorem digs_step (m : Nat) (h : m ≠ 0) : digs m = digs (m / 10) ++ [UInt8.ofNat (48 + m % 10)] := by
  unfold digs
  rw [if_neg h, Go.Lib.decDigits]
  by_cases h10 : m < 10
  · rw [dif_pos h10, if_pos (by omega), Nat.mod_eq_of_lt h10]; rfl
  · rw [dif_neg h10, if_neg (by omega)]
theorem figure_is (a : Nat) (h : a < 10) : spec_l01Figure.f (a : Int) = some ((48 + a : Nat) : Int) := by
  unfold spec_l01Figure.f
  rw [if_pos (by omega), w64 (by omega) (by omega)]
  congr 1
  omega
theorem str_cons (a : Nat) (l : List UInt8) : strOfNums [(a : Int)] ++ (⟨l.toArray⟩ : ByteArray) = ⟨(UInt8.ofNat a :: l).toArray⟩ := by
  have h : (strOfNums [(a : Int)] ++ (⟨l.toArray⟩ : ByteArray)).data.toList = (⟨(UInt8.ofNat a :: l).toArray⟩ : ByteArray).data.toList := by simp [strOfNums]
  revert h
  generalize strOfNums [(a : Int)] ++ (⟨l.toArray⟩ : ByteArray) = x
  generalize (⟨(UInt8.ofNat a :: l).toArray⟩ : ByteArray) = y
  intro h
  cases x; cases y
  simp only [ByteArray.mk.injEq]
  exact Array.toList_inj.1 h
theorem minus_cons (l : List UInt8) : (⟨#[45]⟩ : ByteArray) ++ (⟨l.toArray⟩ : ByteArray) = ⟨(45 :: l).toArray⟩ := str_cons 45 l
theorem tmod_abs (x : Int) : (Int.tmod x 10).natAbs = x.natAbs % 10 := by
  rw [Int.natAbs_tmod]; rfl
theorem tdiv_abs (x : Int) : (Int.tdiv x 10).natAbs = x.natAbs / 10 := by
  rw [Int.natAbs_tdiv]; rfl
theorem tmod_nonneg_iff (x : Int) : (0 ≤ x → 0 ≤ Int.tmod x 10) ∧ (x ≤ 0 → Int.tmod x 10 ≤ 0) := by
  refine ⟨fun h => Int.tmod_nonneg 10 h, fun h => ?_⟩
  have := Int.tmod_nonneg 10 (show 0 ≤ -x by omega)
  rw [Int.neg_tmod] at this
  omega
theorem tdiv_range (x : Int) (h0 : -9223372036854775808 ≤ x) (h1 : x ≤ 9223372036854775807) : -9223372036854775808 ≤ Int.tdiv x 10 ∧ Int.tdiv x 10 ≤ 9223372036854775807 := by
  have := tdiv_abs x
  omega
theorem specDecimal_l0 (d : Nat) : ∀ (k : Nat) (x : Int) (below : Bool) (acc : List UInt8), x.natAbs < 10 ^ d → -9223372036854775808 ≤ x → x ≤ 9223372036854775807 → acc.length + d ≤ 1000 → d < k →
    spec_Decimal.l0 k x below ⟨acc.toArray⟩ = some (if below = true then ⟨(45 :: (digs x.natAbs ++ acc)).toArray⟩ else ⟨(digs x.natAbs ++ acc).toArray⟩) := by
  have hsz : ∀ l : List UInt8, (⟨l.toArray⟩ : ByteArray).size = l.length := fun l => rfl
  have hend : ∀ (k : Nat) (below : Bool) (acc : List UInt8), acc.length ≤ 1000 → 1 ≤ k → spec_Decimal.l0 k 0 below ⟨acc.toArray⟩ = some (if below = true then ⟨(45 :: (digs 0 ++ acc)).toArray⟩ else ⟨(digs 0 ++ acc).toArray⟩) := by
    intro k below acc ha hk
    obtain ⟨k, rfl⟩ : ∃ k', k = k' + 1 := ⟨k - 1, by omega⟩
    rw [spec_Decimal.l0, if_pos rfl]
    cases below with
    | true => rw [if_pos rfl, if_pos rfl, if_pos (by rw [hsz]; omega), minus_cons]; rfl
    | false => rw [if_neg (by simp), if_neg (by simp)]; rfl
  induction d with
  | zero =>
    intro k x below acc hx h0 h1 ha hk
    have : x = 0 := by simp only [Nat.pow_zero] at hx; omega
    subst this
    exact hend k below acc (by omega) (by omega)
  | succ d ih =>
    intro k x below acc hx h0 h1 ha hk
    by_cases hz : x = 0
    · subst hz; exact hend k below acc (by omega) (by omega)
    · obtain ⟨k, rfl⟩ : ∃ k', k = k' + 1 := ⟨k - 1, by omega⟩
      have hm := tmod_abs x
      have hq := tdiv_abs x
      obtain ⟨q0, q1⟩ := tdiv_range x h0 h1
      have hne : x.natAbs ≠ 0 := by omega
      have hlt : x.natAbs % 10 < 10 := Nat.mod_lt _ (by omega)
      have hrec := ih k (Int.tdiv x 10) below (UInt8.ofNat (48 + x.natAbs % 10) :: acc) (by rw [hq]; rw [Nat.pow_succ] at hx; omega) q0 q1 (by simp only [List.length_cons]; omega) (by omega)
      have hfin : spec_Decimal.l0 k (Int.tdiv x 10) below (strOfNums [((48 + x.natAbs % 10 : Nat) : Int)] ++ ⟨acc.toArray⟩) = some (if below = true then ⟨(45 :: (digs x.natAbs ++ acc)).toArray⟩ else ⟨(digs x.natAbs ++ acc).toArray⟩) := by
        rw [str_cons, hrec, hq, digs_step _ hne]
        simp only [List.append_assoc, List.cons_append, List.nil_append]
      have h1' : (strOfNums [((48 + x.natAbs % 10 : Nat) : Int)]).size = 1 := str_size _
      rw [spec_Decimal.l0, if_neg hz, w64 q0 q1]
      by_cases hneg : Int.tmod x 10 < 0
      · have e : wrap64 (-(Int.tmod x 10)) = ((x.natAbs % 10 : Nat) : Int) := by rw [w64 (by omega) (by omega)]; omega
        rw [if_pos hneg, e, figure_is _ hlt, Option.bind_some, Option.bind_some, if_pos (by rw [h1', hsz]; omega)]
        exact hfin
      · have e : Int.tmod x 10 = ((x.natAbs % 10 : Nat) : Int) := by omega
        rw [if_neg hneg, e, figure_is _ hlt, Option.bind_some, Option.bind_some, if_pos (by rw [h1', hsz]; omega)]
        exact hfin
theorem specDecimal_is (n : Int) (h0 : -9223372036854775808 ≤ n) (h1 : n ≤ 9223372036854775807) (k : Nat) (hk : 30 ≤ k) : spec_Decimal.f k n = some ⟨(Go.Lib.itoa n).toArray⟩ := by
  unfold spec_Decimal.f Go.Lib.itoa
  by_cases hz : n = 0
  · subst hz
    rw [if_pos rfl, if_neg (by omega)]
    have : Go.Lib.decDigits (Int.toNat 0) = [48] := Go.Lib.decDigits_one (by decide)
    rw [this]
  · have h := specDecimal_l0 20 k n (decide (n < 0)) [] (by have : (10 : Nat) ^ 20 = 100000000000000000000 := by decide
                                                            omega) h0 h1 (by simp) (by omega)
    rw [if_neg hz]
    refine h.trans ?_
    rw [List.append_nil]
    have hd : digs n.natAbs = Go.Lib.decDigits n.natAbs := by unfold digs; rw [if_neg (by omega)]
    rw [hd]
    by_cases hn : n < 0
    · rw [if_pos (by simpa using hn), if_pos hn]
    · rw [if_neg (by simpa using hn), if_neg hn, show n.natAbs = n.toNat by omega]

/-! ### implDecimal -/
theorem implDecimal_is (n : Int) (h0 : -9223372036854775808 ≤ n) (h1 : n ≤ 9223372036854775807) : impl_Decimal.f n = some ⟨(Go.Lib.itoa n).toArray⟩ := by
  unfold impl_Decimal.f strconv_Itoa.f
  rw [if_pos h0, if_pos h1, Option.bind_some]

/-! ### within -/
theorem within_is (a b c : Int) : impl_within.f a b c = some (decide (b ≤ a ∧ a ≤ c)) := by
  unfold impl_within.f
  by_cases h : a ≥ b
  · rw [if_pos h]; simp [show b ≤ a from h]
  · rw [if_neg h]; simp [show ¬ b ≤ a from h]

/-! ### readDecimal -/
/-! a decimal numeral is read: plain -/
theorem dec_len (d : Nat) : ∀ u : Nat, u < 10 ^ (d + 1) → (Go.Lib.decDigits u).length ≤ d + 1 := by
  induction d with
  | zero =>
    intro u hu
    rw [Go.Lib.decDigits, dif_pos (by omega)]
    exact Nat.le_refl _
  | succ d ih =>
    intro u hu
    rw [Go.Lib.decDigits]
    by_cases h : u < 10
    · rw [dif_pos h]; simp
    · rw [dif_neg h, List.length_append]
      have := ih (u / 10) (by rw [Nat.pow_succ] at hu; omega)
      simp only [List.length_cons, List.length_nil]; omega
def wfrom (a : Nat) (l : List UInt8) : Nat := l.foldl (fun a b => 10 * a + (b.toNat - 48)) a
theorem wfrom_ge (l : List UInt8) : ∀ a, a ≤ wfrom a l := by
  induction l with
  | nil => intro a; exact Nat.le_refl _
  | cons b l ih => intro a; exact Nat.le_trans (by omega) (ih (10 * a + (b.toNat - 48)))
def figB (b : UInt8) : Bool := decide (48 ≤ b.toNat ∧ b.toNat ≤ 57)
theorem parse_is (l : List UInt8) : ∀ a, l.all figB = true → wfrom a l < 1844674407370955162 → Go.Lib.parseUint10 a l = .ok (wfrom a l) := by
  induction l with
  | nil => intro a _ _; rfl
  | cons b l ih =>
    intro a hf hw
    rw [List.all_cons, Bool.and_eq_true] at hf
    have hb : 48 ≤ b.toNat ∧ b.toNat ≤ 57 := by simpa [figB] using hf.1
    have hg := wfrom_ge l (10 * a + (b.toNat - 48))
    have hw' : wfrom (10 * a + (b.toNat - 48)) l < 1844674407370955162 := hw
    rw [Go.Lib.parseUint10, if_pos hb, if_neg (by omega), if_neg (by omega), show a * 10 + (b.toNat - 48) = 10 * a + (b.toNat - 48) by omega, ih _ hf.2 hw']
    rfl
theorem dec_figB (u : Nat) : (Go.Lib.decDigits u).all figB = true := by
  rw [List.all_eq_true]
  intro b hb
  unfold figB
  exact decide_eq_true (dec_figs u b hb)
theorem atoi_dec (u : Nat) (hu : u ≤ 1000000000) : Go.Lib.atoiAll (Go.Lib.decDigits u) = .ok (u : Int) := by
  cases h : Go.Lib.decDigits u with
  | nil => exact absurd h (dec_ne_nil u)
  | cons c r =>
    have hc := dec_figs u c (by rw [h]; simp)
    have hp : Go.Lib.parseMag (c :: r) = .ok u := by
      unfold Go.Lib.parseMag
      rw [if_neg (by simp), ← h]
      have hw : wfrom 0 (Go.Lib.decDigits u) = u := worth_dec u
      rw [parse_is _ 0 (dec_figB u) (by rw [hw]; omega), hw]
    unfold Go.Lib.atoiAll
    simp only
    rw [if_neg (by omega), hp]
    simp only
    rw [if_neg (by omega), if_neg (by omega), if_neg (by omega)]
/-- What both programs read out of a numeral. -/
def rdec (s : ByteArray) : Int × Bool := if s.data.toList.all figB = true ∧ worth s.data.toList ≤ 1000000000 ∧ Go.Lib.decDigits (worth s.data.toList) = s.data.toList then ((worth s.data.toList : Nat), true) else (0, false)
theorem rdec_dec {s : ByteArray} {u : Nat} (h : Go.Lib.decDigits u = s.data.toList) (hu : u ≤ 1000000000) : rdec s = ((u : Int), true) := by
  unfold rdec
  rw [← h, worth_dec, if_pos ⟨dec_figB u, hu, rfl⟩]
theorem rdec_not {s : ByteArray} (h : ∀ u : Nat, u ≤ 1000000000 → Go.Lib.decDigits u ≠ s.data.toList) : rdec s = (0, false) := by
  unfold rdec
  rw [if_neg fun c => h _ c.2.1 c.2.2]
theorem rdec_cases (s : ByteArray) : (∃ u : Nat, u ≤ 1000000000 ∧ Go.Lib.decDigits u = s.data.toList ∧ rdec s = ((u : Int), true)) ∨ ((∀ u : Nat, u ≤ 1000000000 → Go.Lib.decDigits u ≠ s.data.toList) ∧ rdec s = (0, false)) := by
  by_cases h : ∃ u : Nat, u ≤ 1000000000 ∧ Go.Lib.decDigits u = s.data.toList
  · obtain ⟨u, hu, hd⟩ := h
    exact .inl ⟨u, hu, hd, rdec_dec hd hu⟩
  · exact .inr ⟨fun u hu hd => h ⟨u, hu, hd⟩, rdec_not fun u hu hd => h ⟨u, hu, hd⟩⟩
theorem itoa_nat (u : Nat) : Go.Lib.itoa (u : Int) = Go.Lib.decDigits u := by
  unfold Go.Lib.itoa
  rw [if_neg (by omega), Int.toNat_natCast]
theorem mkd_toList (l : List UInt8) : (⟨l.toArray⟩ : ByteArray).toList = l := mk_toList l
theorem implRead_is (s : ByteArray) (hs : s.size ≤ 1048576) : impl_ReadDecimal.f s = some (rdec s) := by
  unfold impl_ReadDecimal.f
  rw [if_pos (by omega)]
  rcases rdec_cases s with ⟨u, hu, hd, hr⟩ | ⟨hno, hr⟩
  · rw [← hd, atoi_dec u hu, hr]
    simp only
    have hw : impl_within.f (u : Int) 0 1000000000 = some true := by
      unfold impl_within.f
      rw [if_pos (by omega), decide_eq_true (by omega)]
    rw [hw, Option.bind_some, if_pos rfl, implDecimal_is _ (by omega) (by omega), Option.bind_some, itoa_nat, mkd_toList, ByteArray.toList_eq, if_pos hd]
  · rw [hr]
    cases hc : Go.Lib.atoiAll s.data.toList with
    | «syntax» => rfl
    | range => rfl
    | ok v =>
      simp only
      unfold impl_within.f
      by_cases h0 : v ≥ 0
      · rw [if_pos h0, Option.bind_some]
        by_cases h1 : v ≤ 1000000000
        · rw [decide_eq_true h1, if_pos rfl, implDecimal_is _ (by omega) (by omega), Option.bind_some, mkd_toList, ByteArray.toList_eq, if_neg]
          intro he
          refine hno v.toNat (by omega) ?_
          rw [← itoa_nat, Int.toNat_of_nonneg h0]
          exact he
        · rw [decide_eq_false h1, if_neg (by simp)]
      · rw [if_neg h0, Option.bind_some, if_neg (by simp)]
theorem wfrom_lt (l : List UInt8) : ∀ a, l.all figB = true → wfrom a l < (a + 1) * 10 ^ l.length := by
  induction l with
  | nil => intro a _; show a < _; simp
  | cons b l ih =>
    intro a hf
    rw [List.all_cons, Bool.and_eq_true] at hf
    have hb : 48 ≤ b.toNat ∧ b.toNat ≤ 57 := by simpa [figB] using hf.1
    have h := ih (10 * a + (b.toNat - 48)) hf.2
    show wfrom (10 * a + (b.toNat - 48)) l < _
    refine Nat.lt_of_lt_of_le h ?_
    rw [List.length_cons, Nat.pow_succ, Nat.mul_comm (10 ^ l.length) 10, ← Nat.mul_assoc]
    exact Nat.mul_le_mul_right _ (by omega)
theorem bt_nat (s : ByteArray) (i : Nat) (h : i < s.data.toList.length) : bt s (i : Int) = ((s.data.toList[i]).toNat : Int) := by
  have h1 := bs_get s i h
  unfold bs at h1
  rw [List.getElem?_map, List.getElem?_eq_getElem h, Option.map_some] at h1
  exact (Option.some.inj h1).symm
theorem wfrom_append (a : Nat) (l r : List UInt8) : wfrom a (l ++ r) = wfrom (wfrom a l) r := by
  unfold wfrom
  rw [List.foldl_append]
theorem all_take_succ (l : List UInt8) (i : Nat) (h : i < l.length) : l.take (i + 1) = l.take i ++ [l[i]] := by
  rw [List.take_add_one, List.getElem?_eq_getElem h]
  rfl
theorem wfrom_small (l : List UInt8) (hl : l.length ≤ 10) (hf : l.all figB = true) : wfrom 0 l < 10000000000 := by
  have h := wfrom_lt l 0 hf
  have h2 : 10 ^ l.length ≤ 10 ^ 10 := Nat.pow_le_pow_right (by omega) hl
  have h3 : (10 : Nat) ^ 10 = 10000000000 := by decide
  omega
theorem specRead_l0 (s : ByteArray) (hs : s.size ≤ 10) (d : Nat) : ∀ (k i : Nat), s.size - i = d → i ≤ s.size → (s.data.toList.take i).all figB = true → d + 40 ≤ k →
    spec_ReadDecimal.l0 k s ((wfrom 0 (s.data.toList.take i) : Nat) : Int) (i : Int) = some (rdec s) := by
  have hlen : s.data.toList.length = s.size := rfl
  induction d with
  | zero =>
    intro k i hd hi hf hk
    obtain ⟨k, rfl⟩ : ∃ m, k = m + 1 := ⟨k - 1, by omega⟩
    rw [List.take_of_length_le (by omega)] at hf ⊢
    have hsm := wfrom_small _ (by omega) hf
    rw [spec_ReadDecimal.l0, if_neg (by omega)]
    by_cases hb : ((wfrom 0 s.data.toList : Nat) : Int) > 1000000000
    · rw [if_pos hb, rdec_not]
      intro u hu he
      have : wfrom 0 s.data.toList = u := by rw [← he]; exact worth_dec u
      omega
    · rw [if_neg hb, specDecimal_is _ (by omega) (by omega) k (by omega), Option.bind_some, itoa_nat, mkd_toList, ByteArray.toList_eq]
      by_cases he : Go.Lib.decDigits (wfrom 0 s.data.toList) = s.data.toList
      · rw [if_pos he, rdec_dec he (by omega)]
      · rw [if_neg he, rdec_not]
        intro u hu h2
        have : wfrom 0 s.data.toList = u := by rw [← h2]; exact worth_dec u
        rw [this] at he
        exact he h2
  | succ d ih =>
    intro k i hd hi hf hk
    obtain ⟨k, rfl⟩ : ∃ m, k = m + 1 := ⟨k - 1, by omega⟩
    have hlt : i < s.data.toList.length := by omega
    have hr := bt_range s (i : Int)
    have hn := bt_nat s i hlt
    have hsm := wfrom_small _ (by rw [List.length_take]; omega) hf
    have hbad : ¬ (48 ≤ bt s (i : Int) ∧ bt s (i : Int) ≤ 57) → rdec s = (0, false) := by
      intro hb
      refine rdec_not fun u _ he => hb ?_
      have := dec_figs u (s.data.toList[i]) (by rw [he]; exact List.getElem_mem _)
      omega
    rw [spec_ReadDecimal.l0, if_pos (by omega), if_pos (by omega)]
    by_cases hlo : bt s (i : Int) < 48
    · rw [if_pos hlo, hbad (by omega)]
    · rw [if_neg hlo]
      by_cases hhi : bt s (i : Int) > 57
      · rw [if_pos hhi, hbad (by omega)]
      · have hfi : (s.data.toList.take (i + 1)).all figB = true := by
          rw [all_take_succ _ i hlt, List.all_append, hf, List.all_cons, List.all_nil, Bool.true_and, Bool.and_true]
          unfold figB
          exact decide_eq_true (by omega)
        have hw : wfrom 0 (s.data.toList.take (i + 1)) = 10 * wfrom 0 (s.data.toList.take i) + ((s.data.toList[i]).toNat - 48) := by
          rw [all_take_succ _ i hlt, wfrom_append]
          rfl
        have hrec := ih k (i + 1) (by omega) (by omega) hfi (by omega)
        rw [if_neg hhi, w64_bt, w64 (n := 10 * _) (by omega) (by omega), w64 (n := _ + bt s (i : Int)) (by omega) (by omega), w64 (n := _ - 48) (by omega) (by omega), w64 (n := (i : Int) + 1) (by omega) (by omega)]
        rw [hw] at hrec
        rw [show 10 * ((wfrom 0 (s.data.toList.take i) : Nat) : Int) + bt s (i : Int) - 48 = ((10 * wfrom 0 (s.data.toList.take i) + ((s.data.toList[i]).toNat - 48) : Nat) : Int) by omega, show (i : Int) + 1 = ((i + 1 : Nat) : Int) by omega]
        exact hrec
theorem specRead_is (s : ByteArray) (k : Nat) (hk : 60 ≤ k) : spec_ReadDecimal.f k s = some (rdec s) := by
  unfold spec_ReadDecimal.f
  by_cases h : (s.size : Int) > 10
  · rw [if_pos h, rdec_not]
    intro u hu he
    have := dec_len 9 u (by omega)
    have h2 : s.data.toList.length = s.size := rfl
    rw [he] at this
    omega
  · rw [if_neg h]
    exact specRead_l0 s (by omega) s.size k 0 (by omega) (by omega) (by simp) (by omega)

/-! ### FnExactReadDecimal -/
theorem FnExactReadDecimal : laws_FnExactReadDecimal.Pure := by
  intro s hs
  refine ⟨100, ?_⟩
  unfold laws_FnExactReadDecimal.f
  by_cases h : (s.size : Int) > 1048576
  · rw [if_pos h]
  · rw [if_neg h, specRead_is s _ (by omega), Option.bind_some, implRead_is s (by omega), Option.bind_some, if_pos rfl, if_neg (by simp)]

end Go.Proofs.YtkbgmojomgelbaaDoor.Pure
