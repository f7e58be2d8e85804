/- FnNumbers without Go: for what is drawn, numbers and texts are read again as they were written. -/
import Derived.Test.YtkbgmojomgelbaaDoorMFnNumbersx4
import Derived.Lib.AtoiAll
import Derived.Lib.ItoaNum
set_option linter.unusedVariables false
set_option linter.unusedSimpArgs false
set_option maxHeartbeats 400000
namespace Go.Proofs.YtkbgmojomgelbaaDoor.Pure
open Go.RowKit Go.Proofs.YtkbgmojomgelbaaDoor.MFnNumbers Go.Proofs.YtkbgmojomgelbaaDoorW.PrintWords Go.Proofs.YtkbgmojomgelbaaDoorW.PrintLast
/-! ### base -/
theorem w64 {n : Int} (h : -9223372036854775808 ≤ n) (h' : n ≤ 9223372036854775807) : wrap64 n = n := by unfold wrap64; omega
theorem w64_succ {i m : Nat} (h : i < m) (hm : m ≤ 140737488351232) : wrap64 ((i : Int) + 1) = ((i + 1 : Nat) : Int) := by
  rw [w64 (by omega) (by omega)]; omega
theorem w64_bt (s : ByteArray) (i : Int) : wrap64 (bt s i) = bt s i := by
  have := bt_range s i
  exact w64 (by omega) (by omega)
/-- A string's bytes as numbers. -/
def bs (s : ByteArray) : List Int := s.data.toList.map fun b => (b.toNat : Int)
theorem bs_length (s : ByteArray) : (bs s).length = s.size := by simp [bs]
theorem bs_get (s : ByteArray) (i : Nat) (h : i < s.size) : (bs s)[i]? = some (bt s i) := by
  have h2 : i < s.data.toList.length := by simpa using h
  simp only [bs, List.getElem?_map, List.getElem?_eq_getElem h2, Option.map_some]
  unfold bt
  rw [dif_pos (by simpa using h)]
  rfl
theorem bs_drop (s : ByteArray) (i : Nat) (h : i < s.size) : (bs s).drop i = bt s i :: (bs s).drop (i + 1) := by
  have h2 : i < (bs s).length := by rw [bs_length]; exact h
  rw [List.drop_eq_getElem_cons h2]
  congr 1
  have := bs_get s i h
  rw [List.getElem?_eq_getElem h2] at this
  exact Option.some.inj this
theorem bs_drop_nil (s : ByteArray) (i : Nat) (h : s.size ≤ i) : (bs s).drop i = [] := List.drop_eq_nil_of_le (by rw [bs_length]; exact h)
theorem bs_range {s : ByteArray} {c : Int} (h : c ∈ bs s) : 0 ≤ c ∧ c ≤ 255 := by
  simp only [bs, List.mem_map] at h
  obtain ⟨b, _, rfl⟩ := h
  have := b.toNat_lt
  omega
theorem bs_inj {s t : ByteArray} (h : bs s = bs t) : s = t := by
  have hd : s.data.toList = t.data.toList := by
    refine List.map_inj_right (f := fun b : UInt8 => (b.toNat : Int)) (fun a b hab => ?_) |>.1 h
    have hab2 : (a.toNat : Int) = b.toNat := hab
    exact UInt8.toNat_inj.1 (by omega)
  cases s; cases t
  simp only [ByteArray.mk.injEq]
  exact Array.toList_inj.1 hd
theorem bs_str {xs : List Int} (h : ∀ x ∈ xs, 0 ≤ x ∧ x ≤ 255) : bs (strOfNums xs) = xs := by
  unfold bs strOfNums
  simp only [List.map_map]
  conv => rhs; rw [← List.map_id xs]
  refine List.map_congr_left fun x hx => ?_
  have := h x hx
  simp only [Function.comp, id, UInt8.toNat_ofNat']
  omega
theorem str_bs (s : ByteArray) : strOfNums (bs s) = s := bs_inj (bs_str fun _ hx => bs_range hx)
theorem str_size (xs : List Int) : (strOfNums xs).size = xs.length := by
  show ((xs.map fun n => UInt8.ofNat n.toNat).toArray).size = xs.length
  simp
theorem bs_append (s t : ByteArray) : bs (s ++ t) = bs s ++ bs t := by
  simp [bs]
theorem bs_empty : bs (⟨#[]⟩ : ByteArray) = [] := rfl
theorem bt_str {xs : List Int} (h : ∀ x ∈ xs, 0 ≤ x ∧ x ≤ 255) (i : Nat) (hi : i < xs.length) : bt (strOfNums xs) i = rd xs i := by
  have h1 := bs_get (strOfNums xs) i (by rw [str_size]; exact hi)
  rw [bs_str h] at h1
  unfold rd
  rw [List.getD_eq_getElem?_getD, Int.toNat_natCast, h1]
  rfl
theorem bt_bs (s : ByteArray) (i : Int) : bt s i = rd (bs s) i := by
  unfold rd
  rw [List.getD_eq_getElem?_getD]
  by_cases h : i.toNat < s.size
  · have := bs_get s i.toNat h
    rw [this]
    unfold bt
    simp only [Int.toNat_natCast]
    rw [dif_pos h]
    rfl
  · rw [List.getElem?_eq_none (by rw [bs_length]; omega)]
    unfold bt
    rw [dif_neg h]
    rfl
theorem toList_eq {s t : ByteArray} : s.toList = t.toList ↔ s = t := by
  rw [ByteArray.toList_eq, ByteArray.toList_eq]
  constructor
  · intro h; cases s; cases t; simpa [Array.toList_inj] using h
  · rintro rfl; rfl
theorem tdiv_e {n : Int} (h : 0 ≤ n) (m : Int) : Int.tdiv n m = n / m := Int.tdiv_eq_ediv_of_nonneg h
theorem tmod_e {n : Int} (h : 0 ≤ n) (m : Int) : Int.tmod n m = n % m := Int.tmod_eq_emod_of_nonneg h

/-! ### mkB -/
def mkB (l : List UInt8) : ByteArray := ⟨l.toArray⟩
theorem data_mk (l : List UInt8) : (mkB l).data.toList = l := by simp [mkB]
theorem ba_ext {x y : ByteArray} (h : x.data.toList = y.data.toList) : x = y := by
  cases x; cases y
  simp only [ByteArray.mk.injEq]
  exact Array.toList_inj.1 h
theorem mk_data (s : ByteArray) : mkB s.data.toList = s := ba_ext (data_mk _)
theorem mk_append (a b : List UInt8) : mkB a ++ mkB b = mkB (a ++ b) := by
  refine ba_ext ?_
  rw [data_mk, ByteArray.data_append, Array.toList_append, data_mk, data_mk]
theorem mk_size (l : List UInt8) : (mkB l).size = l.length := by
  have h : (mkB l).data.toList.length = l.length := by rw [data_mk]
  exact h
theorem mk_inj {a b : List UInt8} (h : mkB a = mkB b) : a = b := by rw [← data_mk a, h, data_mk]
theorem mk_toList (l : List UInt8) : (mkB l).toList = l := by rw [ByteArray.toList_eq]; exact data_mk l

/-! ### decInj -/
/-! decimal numerals: their figures, their value -/
theorem dec_ind {P : Nat → List UInt8 → Prop} (h1 : ∀ u, u < 10 → P u [UInt8.ofNat (48 + u)]) (h2 : ∀ u, 10 ≤ u → P (u / 10) (Go.Lib.decDigits (u / 10)) → P u (Go.Lib.decDigits (u / 10) ++ [UInt8.ofNat (48 + u % 10)])) (u : Nat) : P u (Go.Lib.decDigits u) := by
  induction u using Nat.strongRecOn with
  | _ u ih =>
    rw [Go.Lib.decDigits]
    by_cases h : u < 10
    · rw [dif_pos h]; exact h1 u h
    · rw [dif_neg h]; exact h2 u (by omega) (ih (u / 10) (by omega))
theorem fig_nat (r : Nat) (h : r < 10) : (UInt8.ofNat (48 + r)).toNat = 48 + r := by
  rw [UInt8.toNat_ofNat']; omega
theorem dec_figs (u : Nat) : ∀ b ∈ Go.Lib.decDigits u, 48 ≤ b.toNat ∧ b.toNat ≤ 57 := by
  refine dec_ind (P := fun _ l => ∀ b ∈ l, 48 ≤ b.toNat ∧ b.toNat ≤ 57) ?_ ?_ u
  · intro u hu b hb
    rw [List.mem_singleton] at hb
    rw [hb, fig_nat u hu]; omega
  · intro u hu ih b hb
    rw [List.mem_append, List.mem_singleton] at hb
    rcases hb with hb | hb
    · exact ih b hb
    · rw [hb, fig_nat _ (Nat.mod_lt _ (by omega))]; omega
/-- What figures are worth. -/
def worth (l : List UInt8) : Nat := l.foldl (fun a b => 10 * a + (b.toNat - 48)) 0
theorem worth_dec (u : Nat) : worth (Go.Lib.decDigits u) = u := by
  refine dec_ind (P := fun u l => worth l = u) ?_ ?_ u
  · intro u hu
    show 10 * 0 + ((UInt8.ofNat (48 + u)).toNat - 48) = u
    rw [fig_nat u hu]; omega
  · intro u hu ih
    unfold worth at ih ⊢
    rw [List.foldl_append, ih]
    show 10 * (u / 10) + ((UInt8.ofNat (48 + u % 10)).toNat - 48) = u
    rw [fig_nat _ (Nat.mod_lt _ (by omega))]; omega
theorem dec_inj {u v : Nat} (h : Go.Lib.decDigits u = Go.Lib.decDigits v) : u = v := by rw [← worth_dec u, h, worth_dec]
theorem dec_ne_nil (u : Nat) : Go.Lib.decDigits u ≠ [] := by
  refine dec_ind (P := fun _ l => l ≠ []) ?_ ?_ u
  · intro u _; simp
  · intro u _ _; simp

/-! ### implDecimal -/
theorem implDecimal_is (n : Int) (h0 : -9223372036854775808 ≤ n) (h1 : n ≤ 9223372036854775807) : impl_Decimal.f n = some ⟨(Go.Lib.itoa n).toArray⟩ := by
  unfold impl_Decimal.f strconv_Itoa.f
  rw [if_pos h0, if_pos h1, Option.bind_some]

/-! ### within -/
theorem within_is (a b c : Int) : impl_within.f a b c = some (decide (b ≤ a ∧ a ≤ c)) := by
  unfold impl_within.f
  by_cases h : a ≥ b
  · rw [if_pos h]; simp [show b ≤ a from h]
  · rw [if_neg h]; simp [show ¬ b ≤ a from h]

/-! ### rdec -/
/-! a decimal numeral is read: plain -/
theorem dec_len (d : Nat) : ∀ u : Nat, u < 10 ^ (d + 1) → (Go.Lib.decDigits u).length ≤ d + 1 := by
  induction d with
  | zero =>
    intro u hu
    rw [Go.Lib.decDigits, dif_pos (by omega)]
    exact Nat.le_refl _
  | succ d ih =>
    intro u hu
    rw [Go.Lib.decDigits]
    by_cases h : u < 10
    · rw [dif_pos h]; simp
    · rw [dif_neg h, List.length_append]
      have := ih (u / 10) (by rw [Nat.pow_succ] at hu; omega)
      simp only [List.length_cons, List.length_nil]; omega
def wfrom (a : Nat) (l : List UInt8) : Nat := l.foldl (fun a b => 10 * a + (b.toNat - 48)) a
theorem wfrom_ge (l : List UInt8) : ∀ a, a ≤ wfrom a l := by
  induction l with
  | nil => intro a; exact Nat.le_refl _
  | cons b l ih => intro a; exact Nat.le_trans (by omega) (ih (10 * a + (b.toNat - 48)))
def figB (b : UInt8) : Bool := decide (48 ≤ b.toNat ∧ b.toNat ≤ 57)
theorem parse_is (l : List UInt8) : ∀ a, l.all figB = true → wfrom a l < 1844674407370955162 → Go.Lib.parseUint10 a l = .ok (wfrom a l) := by
  induction l with
  | nil => intro a _ _; rfl
  | cons b l ih =>
    intro a hf hw
    rw [List.all_cons, Bool.and_eq_true] at hf
    have hb : 48 ≤ b.toNat ∧ b.toNat ≤ 57 := by simpa [figB] using hf.1
    have hg := wfrom_ge l (10 * a + (b.toNat - 48))
    have hw' : wfrom (10 * a + (b.toNat - 48)) l < 1844674407370955162 := hw
    rw [Go.Lib.parseUint10, if_pos hb, if_neg (by omega), if_neg (by omega), show a * 10 + (b.toNat - 48) = 10 * a + (b.toNat - 48) by omega, ih _ hf.2 hw']
    rfl
theorem dec_figB (u : Nat) : (Go.Lib.decDigits u).all figB = true := by
  rw [List.all_eq_true]
  intro b hb
  unfold figB
  exact decide_eq_true (dec_figs u b hb)
theorem atoi_dec (u : Nat) (hu : u ≤ 1000000000) : Go.Lib.atoiAll (Go.Lib.decDigits u) = .ok (u : Int) := by
  cases h : Go.Lib.decDigits u with
  | nil => exact absurd h (dec_ne_nil u)
  | cons c r =>
    have hc := dec_figs u c (by rw [h]; simp)
    have hp : Go.Lib.parseMag (c :: r) = .ok u := by
      unfold Go.Lib.parseMag
      rw [if_neg (by simp), ← h]
      have hw : wfrom 0 (Go.Lib.decDigits u) = u := worth_dec u
      rw [parse_is _ 0 (dec_figB u) (by rw [hw]; omega), hw]
    unfold Go.Lib.atoiAll
    simp only
    rw [if_neg (by omega), hp]
    simp only
    rw [if_neg (by omega), if_neg (by omega), if_neg (by omega)]
/-- What both programs read out of a numeral. -/
def rdec (s : ByteArray) : Int × Bool := if s.data.toList.all figB = true ∧ worth s.data.toList ≤ 1000000000 ∧ Go.Lib.decDigits (worth s.data.toList) = s.data.toList then ((worth s.data.toList : Nat), true) else (0, false)
theorem rdec_dec {s : ByteArray} {u : Nat} (h : Go.Lib.decDigits u = s.data.toList) (hu : u ≤ 1000000000) : rdec s = ((u : Int), true) := by
  unfold rdec
  rw [← h, worth_dec, if_pos ⟨dec_figB u, hu, rfl⟩]
theorem rdec_not {s : ByteArray} (h : ∀ u : Nat, u ≤ 1000000000 → Go.Lib.decDigits u ≠ s.data.toList) : rdec s = (0, false) := by
  unfold rdec
  rw [if_neg fun c => h _ c.2.1 c.2.2]
theorem rdec_cases (s : ByteArray) : (∃ u : Nat, u ≤ 1000000000 ∧ Go.Lib.decDigits u = s.data.toList ∧ rdec s = ((u : Int), true)) ∨ ((∀ u : Nat, u ≤ 1000000000 → Go.Lib.decDigits u ≠ s.data.toList) ∧ rdec s = (0, false)) := by
  by_cases h : ∃ u : Nat, u ≤ 1000000000 ∧ Go.Lib.decDigits u = s.data.toList
  · obtain ⟨u, hu, hd⟩ := h
    exact .inl ⟨u, hu, hd, rdec_dec hd hu⟩
  · exact .inr ⟨fun u hu hd => h ⟨u, hu, hd⟩, rdec_not fun u hu hd => h ⟨u, hu, hd⟩⟩
theorem itoa_nat (u : Nat) : Go.Lib.itoa (u : Int) = Go.Lib.decDigits u := by
  unfold Go.Lib.itoa
  rw [if_neg (by omega), Int.toNat_natCast]
theorem mkd_toList (l : List UInt8) : (⟨l.toArray⟩ : ByteArray).toList = l := mk_toList l
theorem implRead_is (s : ByteArray) (hs : s.size ≤ 1048576) : impl_ReadDecimal.f s = some (rdec s) := by
  unfold impl_ReadDecimal.f
  rw [if_pos (by omega)]
  rcases rdec_cases s with ⟨u, hu, hd, hr⟩ | ⟨hno, hr⟩
  · rw [← hd, atoi_dec u hu, hr]
    simp only
    have hw : impl_within.f (u : Int) 0 1000000000 = some true := by
      unfold impl_within.f
      rw [if_pos (by omega), decide_eq_true (by omega)]
    rw [hw, Option.bind_some, if_pos rfl, implDecimal_is _ (by omega) (by omega), Option.bind_some, itoa_nat, mkd_toList, ByteArray.toList_eq, if_pos hd]
  · rw [hr]
    cases hc : Go.Lib.atoiAll s.data.toList with
    | «syntax» => rfl
    | range => rfl
    | ok v =>
      simp only
      unfold impl_within.f
      by_cases h0 : v ≥ 0
      · rw [if_pos h0, Option.bind_some]
        by_cases h1 : v ≤ 1000000000
        · rw [decide_eq_true h1, if_pos rfl, implDecimal_is _ (by omega) (by omega), Option.bind_some, mkd_toList, ByteArray.toList_eq, if_neg]
          intro he
          refine hno v.toNat (by omega) ?_
          rw [← itoa_nat, Int.toNat_of_nonneg h0]
          exact he
        · rw [decide_eq_false h1, if_neg (by simp)]
      · rw [if_neg h0, Option.bind_some, if_neg (by simp)]

/-! ### varBytes -/
/-- A number in bytes. -/
def varBytes (n : Nat) : List Int := if n ≤ 127 then [(n : Int)] else ((n % 128 + 128 : Nat) : Int) :: varBytes (n / 128)
termination_by n
theorem varBytes_small {n : Nat} (h : n ≤ 127) : varBytes n = [(n : Int)] := by rw [varBytes, if_pos h]
theorem varBytes_big {n : Nat} (h : ¬ n ≤ 127) : varBytes n = ((n % 128 + 128 : Nat) : Int) :: varBytes (n / 128) := by rw [varBytes, if_neg h]
theorem varBytes_range (n : Nat) : ∀ x ∈ varBytes n, 0 ≤ x ∧ x ≤ 255 := by
  induction n using Nat.strongRecOn with
  | ind n ih =>
    intro x hx
    by_cases h : n ≤ 127
    · rw [varBytes_small h] at hx; simp only [List.mem_singleton] at hx; omega
    · rw [varBytes_big h] at hx
      simp only [List.mem_cons] at hx
      rcases hx with rfl | hx
      · omega
      · exact ih (n / 128) (by omega) x hx
theorem varBytes_length (n : Nat) : (varBytes n).length ≤ n + 1 := by
  induction n using Nat.strongRecOn with
  | ind n ih =>
    by_cases h : n ≤ 127
    · rw [varBytes_small h]; simp
    · rw [varBytes_big h]
      have := ih (n / 128) (by omega)
      simp only [List.length_cons]; omega

/-! ### implReadVar -/
/-- The number that these bytes tell, seven bits each, the lowest first. -/
def valL : List Int → Nat
  | [] => 0
  | b :: l => b.toNat % 128 + 128 * valL l
/-- 128 to the j. -/
def pw : Nat → Nat
  | 0 => 1
  | j + 1 => 128 * pw j
theorem pow_le (j : Nat) (h : j < 5) : pw j ≤ 268435456 := by
  match j, h with
  | 0, _ => simp only [pw]; omega
  | 1, _ => simp only [pw]; omega
  | 2, _ => simp only [pw]; omega
  | 3, _ => simp only [pw]; omega
  | 4, _ => simp only [pw]; omega
theorem pw_two (j : Nat) : (2 : Int) ^ (7 * j) = (pw j : Int) := by
  induction j with
  | zero => rfl
  | succ j ih =>
    rw [show 7 * (j + 1) = 7 * j + 7 from by omega, Int.pow_add, ih]
    simp only [pw]
    omega
theorem valL_snoc (l : List Int) (c : Int) : valL (l ++ [c]) = valL l + c.toNat % 128 * pw l.length := by
  induction l with
  | nil => simp [valL, pw]
  | cons b l ih =>
    simp only [List.cons_append, valL, ih, List.length_cons, pw]
    rw [Nat.mul_add, Nat.add_assoc, Nat.mul_left_comm]
theorem canon_yes (l : List Int) (c : Nat) (hc : c < 128) (h : l = [] ∨ c ≠ 0) (hl : ∀ x ∈ l, 128 ≤ x ∧ x ≤ 255) : varBytes (valL (l ++ [(c : Int)])) = l ++ [(c : Int)] ∧ (c ≠ 0 → valL (l ++ [(c : Int)]) ≠ 0) := by
  induction l with
  | nil =>
    simp only [List.nil_append, valL]
    rw [show ((c : Int)).toNat % 128 + 128 * 0 = c from by omega, varBytes_small (by omega)]
    exact ⟨rfl, fun h => h⟩
  | cons b l ih =>
    have hc0 : c ≠ 0 := by rcases h with h | h; · cases h
                           · exact h
    obtain ⟨i1, i2⟩ := ih (.inr hc0) (fun x hx => hl x (List.mem_cons_of_mem _ hx))
    have hb := hl b (List.mem_cons_self ..)
    have i3 := i2 hc0
    simp only [List.cons_append, valL]
    rw [varBytes_big (by omega), show (b.toNat % 128 + 128 * valL (l ++ [(c : Int)])) / 128 = valL (l ++ [(c : Int)]) from by omega, i1]
    refine ⟨?_, fun _ => by omega⟩
    congr 1
    omega
theorem canon_no (l : List Int) (hl : l ≠ []) : ∀ n, varBytes n ≠ l ++ [(0 : Int)] := by
  induction l with
  | nil => exact absurd rfl hl
  | cons b l ih =>
    intro n h
    by_cases hn : n ≤ 127
    · rw [varBytes_small hn] at h
      simp at h
    · rw [varBytes_big hn] at h
      simp only [List.cons_append, List.cons.injEq] at h
      by_cases hl0 : l = []
      · subst hl0
        by_cases h2 : n / 128 ≤ 127
        · rw [varBytes_small h2] at h
          simp at h; omega
        · rw [varBytes_big h2] at h
          have := h.2
          simp only [List.nil_append, List.cons.injEq] at this
          omega
      · exact ih hl0 _ h.2
theorem canon (l : List Int) (c : Nat) (hc : c < 128) (hl : ∀ x ∈ l, 128 ≤ x ∧ x ≤ 255) : varBytes (valL (l ++ [(c : Int)])) = l ++ [(c : Int)] ↔ (l = [] ∨ c ≠ 0) := by
  constructor
  · intro h
    by_cases h0 : l = []
    · exact .inl h0
    · refine .inr fun hc0 => ?_
      subst hc0
      exact canon_no l h0 _ h
  · intro h
    exact (canon_yes l c hc h hl).1
/-- What is read from a place on, at most r bytes more. -/
def readGo (s : ByteArray) (a : Nat) : Nat → Nat → Nat → Int × Int × Bool
  | 0, _, _ => (0, 0, false)
  | r + 1, j, n =>
    if a + j < s.size then
      if bt s ((a + j : Nat) : Int) > 127 then readGo s a r (j + 1) (n + (bt s ((a + j : Nat) : Int)).toNat % 128 * pw j)
      else if (j > 0 ∧ bt s ((a + j : Nat) : Int) = 0) ∨ n + (bt s ((a + j : Nat) : Int)).toNat % 128 * pw j > 1000000000 then (0, 0, false)
      else (((n + (bt s ((a + j : Nat) : Int)).toNat % 128 * pw j : Nat) : Int), ((a + j + 1 : Nat) : Int), true)
    else (0, 0, false)
theorem pow_shift (j : Nat) (x : Int) (hj : j < 5) (hx : 0 ≤ x ∧ x < 128) : shl .i64 x (wrap64 (7 * (j : Int))) = x * (pw j : Int) := by
  have hp := pow_le j hj
  have h1 : (wrap64 (7 * (j : Int))).toNat = 7 * j := by rw [w64 (by omega) (by omega)]; omega
  have h3 : x * (pw j : Int) ≤ 127 * 268435456 := Int.mul_le_mul (by omega) (by omega) (by omega) (by omega)
  have h4 : 0 ≤ x * (pw j : Int) := Int.mul_nonneg (by omega) (by omega)
  unfold shl
  rw [h1, show min (7 * j) IntKind.i64.bits = 7 * j from by simp only [IntKind.bits]; omega, pw_two, IntKind.wrap_i64]
  omega
theorem implRead_l0 (s : ByteArray) (a : Nat) (hs : s.size ≤ 140737488351232) (ha : a ≤ s.size) (r : Nat) : ∀ (k j n : Nat), j + r = 5 → 2 * r + 2 ≤ k → n ≤ 268435456 * 128 * j →
    impl_ReadVar.l0 k s (a : Int) (n : Int) (j : Int) = some (readGo s a r j n) := by
  induction r with
  | zero =>
    intro k j n hj hk hn
    obtain ⟨k, rfl⟩ : ∃ m, k = m + 1 + 1 := ⟨k - 2, by omega⟩
    rw [impl_ReadVar.l0, if_neg (by omega), impl_ReadVar.j1, if_neg (by simp)]; rfl
  | succ r ih =>
    intro k j n hj hk hn
    obtain ⟨k, rfl⟩ : ∃ m, k = m + 1 + 1 := ⟨k - 2, by omega⟩
    have hw : wrap64 ((a : Int) + (j : Int)) = ((a + j : Nat) : Int) := by rw [w64 (by omega) (by omega)]; omega
    rw [impl_ReadVar.l0, if_pos (by omega), hw]
    unfold readGo
    by_cases hi : a + j < s.size
    · have hb := bt_range s ((a + j : Nat) : Int)
      have hp := pow_le j (by omega)
      have hsz : n + (bt s ((a + j : Nat) : Int)).toNat % 128 * pw j ≤ 268435456 * 128 * (j + 1) := by
        have : (bt s ((a + j : Nat) : Int)).toNat % 128 * pw j ≤ 127 * 268435456 := Nat.mul_le_mul (by omega) hp
        omega
      have hv : wrap64 ((n : Int) + shl .i64 (Int.tmod (wrap64 (bt s ((a + j : Nat) : Int))) 128) (wrap64 (7 * (j : Int)))) = ((n + (bt s ((a + j : Nat) : Int)).toNat % 128 * pw j : Nat) : Int) := by
        rw [w64_bt, tmod_e (by omega), pow_shift j _ (by omega) (by omega)]
        rw [show (bt s ((a + j : Nat) : Int)) % 128 = (((bt s ((a + j : Nat) : Int)).toNat % 128 : Nat) : Int) from by omega]
        rw [← Int.natCast_mul, ← Int.natCast_add, w64 (by omega) (by omega)]
      rw [show decide (((a + j : Nat) : Int) < (s.size : Int)) = true from decide_eq_true (by omega), impl_ReadVar.j1, if_pos (show true = true from rfl), hw, if_pos (by omega), if_pos (by omega), if_pos (by rw [w64 (by omega) (by omega)]; omega)]
      rw [hv, w64_bt, if_pos hi]
      by_cases hc : bt s ((a + j : Nat) : Int) > 127
      · rw [if_pos hc, if_pos hc, show wrap64 ((j : Int) + 1) = ((j + 1 : Nat) : Int) from by rw [w64 (by omega) (by omega)]; omega]
        exact ih k (j + 1) _ (by omega) (by omega) hsz
      · rw [if_neg hc, if_neg hc]
        by_cases hbad : ((n + (bt s ((a + j : Nat) : Int)).toNat % 128 * pw j : Nat) : Int) > 1000000000
        · rw [if_pos (show _ ∨ _ from .inr (by omega))]
          by_cases hj0 : (j : Int) > 0
          · rw [if_pos hj0, if_pos hbad]; split <;> rfl
          · rw [if_neg hj0, if_pos hbad]
        · by_cases hj0 : (j : Int) > 0
          · rw [if_pos hj0, if_neg hbad, w64_succ hi hs]
            by_cases hz : bt s ((a + j : Nat) : Int) = 0
            · rw [if_pos hz, if_pos (show _ ∨ _ from .inl ⟨by omega, hz⟩)]
            · rw [if_neg hz, if_neg (by rintro (⟨_, h⟩ | h); · exact hz h
                                        · omega)]
          · rw [if_neg hj0, if_neg hbad, w64_succ hi hs, if_neg (by rintro (⟨h, _⟩ | h) <;> omega)]
    · rw [show decide (((a + j : Nat) : Int) < (s.size : Int)) = false from decide_eq_false (by omega), impl_ReadVar.j1, if_neg (by simp), if_neg hi]
/-- What ReadVar tells. -/
def readVarR (s : ByteArray) (a : Int) : Int × Int × Bool := if 0 ≤ a ∧ a ≤ s.size then readGo s a.toNat 5 0 0 else (0, 0, false)
theorem implReadVar_is (s : ByteArray) (a : Int) (hs : s.size ≤ 140737488351232) (k : Nat) (hk : 12 ≤ k) : impl_ReadVar.f k s a = some (readVarR s a) := by
  unfold impl_ReadVar.f readVarR
  rw [within_is, Option.bind_some]
  by_cases h : 0 ≤ a ∧ a ≤ s.size
  · rw [if_pos (by simpa using h), if_pos h]
    obtain ⟨m, rfl⟩ := Int.eq_ofNat_of_zero_le h.1
    exact implRead_l0 s m hs (by omega) 5 k 0 0 (by omega) (by omega) (by omega)
  · rw [if_neg (by simpa using h), if_neg h]

/-! ### readShort -/
theorem readGo_range (s : ByteArray) (a : Nat) (r : Nat) : ∀ (j n : Nat), (readGo s a r j n).2.2 = true → 0 ≤ (readGo s a r j n).1 ∧ (readGo s a r j n).1 ≤ 1000000000 ∧ 0 ≤ (readGo s a r j n).2.1 ∧ (readGo s a r j n).2.1 ≤ s.size := by
  induction r with
  | zero => intro j n h; simp [readGo] at h
  | succ r ih =>
    intro j n h
    unfold readGo at h ⊢
    by_cases h1 : a + j < s.size
    · rw [if_pos h1] at h ⊢
      by_cases h2 : bt s ((a + j : Nat) : Int) > 127
      · rw [if_pos h2] at h ⊢
        exact ih _ _ h
      · rw [if_neg h2] at h ⊢
        by_cases h3 : (j > 0 ∧ bt s ((a + j : Nat) : Int) = 0) ∨ n + (bt s ((a + j : Nat) : Int)).toNat % 128 * pw j > 1000000000
        · rw [if_pos h3] at h; cases h
        · rw [if_neg h3]
          have h4 : ¬ (n + (bt s ((a + j : Nat) : Int)).toNat % 128 * pw j > 1000000000) := fun h => h3 (.inr h)
          refine ⟨?_, ?_, ?_, ?_⟩
          · exact Int.natCast_nonneg _
          · show ((n + (bt s ((a + j : Nat) : Int)).toNat % 128 * pw j : Nat) : Int) ≤ _; omega
          · exact Int.natCast_nonneg _
          · show ((a + j + 1 : Nat) : Int) ≤ _; omega
    · rw [if_neg h1] at h; cases h
theorem readVarR_range (s : ByteArray) (a : Int) (h : (readVarR s a).2.2 = true) : 0 ≤ (readVarR s a).1 ∧ (readVarR s a).1 ≤ 1000000000 ∧ 0 ≤ (readVarR s a).2.1 ∧ (readVarR s a).2.1 ≤ s.size := by
  unfold readVarR at h ⊢
  by_cases h1 : 0 ≤ a ∧ a ≤ s.size
  · rw [if_pos h1] at h ⊢
    exact readGo_range s _ 5 0 0 h
  · rw [if_neg h1] at h; cases h
/-- What ReadShort tells. -/
def readShortR (s : ByteArray) (a : Int) : ByteArray × Int × Bool :=
  if (readVarR s a).2.2 = true then
    if (readVarR s a).1 > 20000 then (⟨#[]⟩, 0, false)
    else if (readVarR s a).1 > (s.size : Int) - (readVarR s a).2.1 then (⟨#[]⟩, 0, false)
    else (s.extract (readVarR s a).2.1.toNat ((readVarR s a).2.1 + (readVarR s a).1).toNat, (readVarR s a).2.1 + (readVarR s a).1, true)
  else (⟨#[]⟩, 0, false)

/-! ### implReadShort -/
theorem implReadShort_is (s : ByteArray) (a : Int) (hs : s.size ≤ 140737488351232) (k : Nat) (hk : 1000000013 ≤ k) : impl_ReadShort.f k s a = some (readShortR s a) := by
  unfold impl_ReadShort.f readShortR
  have hr := readVarR_range s a
  rw [implReadVar_is s a hs k (by omega), Option.bind_some]
  generalize readVarR s a = t at *
  by_cases h : t.2.2 = true
  · have hr := hr h
    have e1 : wrap64 ((s.size : Int) - t.2.1) = (s.size : Int) - t.2.1 := w64 (by omega) (by omega)
    have e2 : wrap64 (t.2.1 + t.1) = t.2.1 + t.1 := w64 (by omega) (by omega)
    rw [if_pos h, if_pos h, e1, e2]
    clear e1 e2
    by_cases h1 : t.1 > 20000
    · rw [if_pos h1, if_pos h1]
    · rw [if_neg h1, if_neg h1]
      by_cases h2 : t.1 > (s.size : Int) - t.2.1
      · rw [if_pos h2, if_pos h2]
      · rw [if_neg h2, if_neg h2, if_pos (by omega), if_pos (by omega), if_pos (by omega)]
  · rw [if_neg h, if_neg h]

/-! ### implVarText -/
theorem implVarText_l0 (n : Nat) : ∀ (k : Nat) (acc : List Int), n < k → n ≤ 9223372036854775807 → acc.length + n < 140737488355328 →
    impl_VarText.l0 k (n : Int) acc = some (strOfNums (acc ++ varBytes n), true) := by
  induction n using Nat.strongRecOn with
  | ind n ih =>
    intro k acc hk hn hl
    obtain ⟨k, rfl⟩ : ∃ m, k = m + 1 := ⟨k - 1, by omega⟩
    rw [impl_VarText.l0]
    by_cases h : n ≤ 127
    · rw [if_neg (by omega), if_pos (by omega), varBytes_small h, show (n : Int) % 256 = n from by omega]
    · have e := ih (n / 128) (by omega) k (acc ++ [((n % 128 + 128 : Nat) : Int)]) (by omega) (by omega) (by simp; omega)
      rw [if_pos (by omega), if_pos (by omega), tdiv_e (by omega), tmod_e (by omega), w64 (by omega) (by omega), w64 (by omega) (by omega),
        show (((n : Int) % 128) + 128) % 256 = ((n % 128 + 128 : Nat) : Int) from by omega, show (n : Int) / 128 = ((n / 128 : Nat) : Int) from by omega, e, varBytes_big h]
      simp
/-- What VarText tells of any whole number. -/
def varTextR (n : Int) : ByteArray × Bool := if 0 ≤ n ∧ n ≤ 1000000000 then (strOfNums (varBytes n.toNat), true) else (⟨#[]⟩, false)
theorem implVarText_is (n : Int) (k : Nat) (hk : 1000000000 < k) : impl_VarText.f k n = some (varTextR n) := by
  unfold impl_VarText.f varTextR
  rw [within_is, Option.bind_some]
  by_cases h : 0 ≤ n ∧ n ≤ 1000000000
  · rw [if_pos (by simpa using h), if_pos h]
    obtain ⟨m, rfl⟩ := Int.eq_ofNat_of_zero_le h.1
    rw [show ((m : Int)).toNat = m from by omega]
    exact implVarText_l0 m k [] (by omega) (by omega) (by simp; omega)
  · rw [if_neg (by simpa using h), if_neg h]
theorem implVarText_nat (n k : Nat) (hn : n ≤ 1000000000) (hk : n < k) : impl_VarText.f k (n : Int) = some (strOfNums (varBytes n), true) := by
  unfold impl_VarText.f
  rw [within_is, Option.bind_some, if_pos (by simp; omega)]
  exact implVarText_l0 n k [] hk (by omega) (by simp; omega)

/-! ### varRound -/
/-! a number that VarText wrote is read again by ReadVar; a text that ShortText wrote, by ReadShort -/
theorem varBytes_pos (n : Nat) : (varBytes n).length ≠ 0 := by
  by_cases h : n ≤ 127
  · rw [varBytes_small h]; simp
  · rw [varBytes_big h]; simp
theorem varBytes_len (d : Nat) : ∀ n, n < pw (d + 1) → (varBytes n).length ≤ d + 1 := by
  induction d with
  | zero =>
    intro n hn
    rw [varBytes_small (by simp only [pw] at hn; omega)]; simp
  | succ d ih =>
    intro n hn
    by_cases h : n ≤ 127
    · rw [varBytes_small h]; simp
    · rw [varBytes_big h, List.length_cons]
      have h2 : pw (d + 1 + 1) = 128 * pw (d + 1) := rfl
      have := ih (n / 128) (by omega)
      omega
theorem varBytes_five (n : Nat) (h : n ≤ 1000000000) : (varBytes n).length ≤ 5 := varBytes_len 4 n (by simp only [pw]; omega)
theorem readGo_var (s : ByteArray) (a : Nat) (r : Nat) : ∀ (j m n : Nat), (varBytes n).length ≤ r → a + j + (varBytes n).length ≤ s.size → (∀ i x, (varBytes n)[i]? = some x → bt s ((a + j + i : Nat) : Int) = x) → m + n * pw j ≤ 1000000000 → (j > 0 → n ≠ 0) →
    readGo s a r j m = (((m + n * pw j : Nat) : Int), ((a + j + (varBytes n).length : Nat) : Int), true) := by
  induction r with
  | zero =>
    intro j m n hl
    have := varBytes_pos n
    omega
  | succ r ih =>
    intro j m n hl hs hb hm hj
    have hpos := varBytes_pos n
    unfold readGo
    rw [if_pos (by omega)]
    by_cases h : n ≤ 127
    · have h0 := hb 0 n (by rw [varBytes_small h]; rfl)
      rw [Nat.add_zero] at h0
      have e : (bt s ((a + j : Nat) : Int)).toNat % 128 = n := by rw [h0]; omega
      rw [if_neg (by omega), e, if_neg (by
        rintro (⟨h1, h2⟩ | h2)
        · rw [h0] at h2
          exact hj h1 (by omega)
        · omega), varBytes_small h]
      rfl
    · have h0 := hb 0 _ (by rw [varBytes_big h]; rfl)
      rw [Nat.add_zero] at h0
      have e : (bt s ((a + j : Nat) : Int)).toNat % 128 = n % 128 := by rw [h0]; omega
      have hp : pw (j + 1) = 128 * pw j := rfl
      have hv : n % 128 * pw j + n / 128 * pw (j + 1) = n * pw j := by
        rw [hp, ← Nat.mul_assoc, ← Nat.add_mul]
        congr 1
        omega
      have hlen : (varBytes n).length = (varBytes (n / 128)).length + 1 := by rw [varBytes_big h, List.length_cons]
      rw [if_pos (by omega), e, ih (j + 1) (m + n % 128 * pw j) (n / 128) (by omega) (by omega) (fun i x hx => by
        have := hb (i + 1) x (by rw [varBytes_big h, List.getElem?_cons_succ]; exact hx)
        rw [← this]
        congr 2
        omega) (by rw [Nat.add_assoc, hv]; exact hm) (fun _ => by omega), Nat.add_assoc m, hv, hlen]
      congr 2
      omega
theorem bt_of_bs {s : ByteArray} {i : Nat} {x : Int} (h : (bs s)[i]? = some x) : bt s (i : Int) = x := by
  have hi : i < s.size := by
    rw [← bs_length]
    obtain ⟨h, _⟩ := List.getElem?_eq_some_iff.1 h
    exact h
  rw [bs_get s i hi] at h
  exact Option.some.inj h
/-- ReadVar, where VarText's bytes stand. -/
theorem readVar_at (s : ByteArray) (p q : List Int) (n : Nat) (hn : n ≤ 1000000000) (h : bs s = p ++ (varBytes n ++ q)) : readVarR s (p.length : Int) = ((n : Int), ((p.length + (varBytes n).length : Nat) : Int), true) := by
  have hsz : s.size = p.length + ((varBytes n).length + q.length) := by rw [← bs_length, h]; simp
  unfold readVarR
  rw [if_pos (by omega), Int.toNat_natCast, readGo_var s p.length 5 0 0 n (varBytes_five n hn) (by omega) (fun i x hx => by
    refine bt_of_bs ?_
    obtain ⟨hi, hx'⟩ := List.getElem?_eq_some_iff.1 hx
    rw [h, List.getElem?_append_right (by omega), List.getElem?_append_left (by omega), ← hx]
    congr 1
    omega) (by simp only [pw]; omega) (by omega)]
  simp only [pw, Nat.mul_one, Nat.zero_add, Nat.add_zero]
theorem short_at (t : ByteArray) (ht : t.size ≤ 20000) : readShortR (strOfNums (varBytes t.size) ++ t) 0 = (t, ((strOfNums (varBytes t.size) ++ t).size : Int), true) := by
  have hb : bs (strOfNums (varBytes t.size) ++ t) = [] ++ (varBytes t.size ++ bs t) := by rw [bs_append, bs_str (varBytes_range _)]; rfl
  have hr := readVar_at _ [] (bs t) t.size (by omega) hb
  rw [List.length_nil, Nat.zero_add] at hr
  have hr : readVarR (strOfNums (varBytes t.size) ++ t) 0 = ((t.size : Int), ((varBytes t.size).length : Int), true) := hr
  have hsz : (strOfNums (varBytes t.size) ++ t).size = (varBytes t.size).length + t.size := by rw [ByteArray.size_append, str_size]
  unfold readShortR
  rw [hr]
  simp only
  rw [if_pos trivial, if_neg (by omega), if_neg (by omega), hsz]
  have hx : (strOfNums (varBytes t.size) ++ t).extract (((varBytes t.size).length : Int)).toNat (((varBytes t.size).length : Int) + (t.size : Int)).toNat = t := by
    rw [← Int.natCast_add, Int.toNat_natCast, Int.toNat_natCast]
    refine bs_inj ?_
    have he : ∀ (s : ByteArray) (a b : Nat), bs (s.extract a b) = ((bs s).drop a).take (b - a) := by
      intro s a b
      unfold bs
      rw [ByteArray.data_extract, Array.toList_extract, List.extract_eq_take_drop, List.map_take, List.map_drop]
    rw [he, hb, List.nil_append, List.drop_left, List.take_of_length_le (by rw [bs_length]; omega)]
  rw [hx]
  congr 2

/-! ### hexRound -/
/-! what Hex wrote, Unhex reads again -/
def hexd (d : Int) : Int := if d < 10 then 48 + d else 87 + d
def hexL (xs : List Int) : List Int := xs.flatMap fun c => [hexd (c / 16), hexd (c % 16)]
theorem hexL_cons (c : Int) (xs : List Int) : hexL (c :: xs) = hexd (c / 16) :: hexd (c % 16) :: hexL xs := by simp [hexL]
theorem digits_is (d : Int) (h0 : 0 ≤ d) (h1 : d < 16) : bt (⟨#[48, 49, 50, 51, 52, 53, 54, 55, 56, 57, 97, 98, 99, 100, 101, 102]⟩ : ByteArray) d = hexd d := by
  have h : d = 0 ∨ d = 1 ∨ d = 2 ∨ d = 3 ∨ d = 4 ∨ d = 5 ∨ d = 6 ∨ d = 7 ∨ d = 8 ∨ d = 9 ∨ d = 10 ∨ d = 11 ∨ d = 12 ∨ d = 13 ∨ d = 14 ∨ d = 15 := by omega
  rcases h with rfl | rfl | rfl | rfl | rfl | rfl | rfl | rfl | rfl | rfl | rfl | rfl | rfl | rfl | rfl | rfl <;> rfl
theorem implHex_l0 (s : ByteArray) (hs : s.size ≤ 20000) (d : Nat) : ∀ (k i : Nat) (acc : List Int), s.size - i ≤ d → d < k → i ≤ s.size → acc.length = 2 * i →
    impl_Hex.l0 k s acc (i : Int) = some (strOfNums (acc ++ hexL ((bs s).drop i)), true) := by
  induction d with
  | zero =>
    intro k i acc hd hk hi ha
    obtain ⟨k, rfl⟩ : ∃ k', k = k' + 1 := ⟨k - 1, by omega⟩
    rw [impl_Hex.l0, if_neg (by omega), bs_drop_nil s i (by omega)]
    simp [hexL]
  | succ d ih =>
    intro k i acc hd hk hi ha
    obtain ⟨k, rfl⟩ : ∃ k', k = k' + 1 := ⟨k - 1, by omega⟩
    by_cases h : i < s.size
    · have hr := bt_range s (i : Int)
      rw [impl_Hex.l0, if_pos (by omega), if_pos (by omega), Int.tdiv_eq_ediv_of_nonneg hr.1, Int.tmod_eq_emod_of_nonneg hr.1, Int.emod_eq_of_lt (a := bt s (i : Int) / 16) (b := 256) (by omega) (by omega), if_pos (by omega), if_pos (by omega), if_pos (by omega), if_pos (by omega),
        digits_is _ (by omega) (by omega), digits_is _ (by omega) (by omega), Option.bind_some, if_pos (by simp only [List.length_cons, List.length_nil]; omega), w64_succ h (by omega),
        ih k (i + 1) _ (by omega) (by omega) (by omega) (by simp only [List.length_append, List.length_cons, List.length_nil]; omega), bs_drop s i h, hexL_cons, List.append_assoc]
      rfl
    · rw [impl_Hex.l0, if_neg (by omega), bs_drop_nil s i (by omega)]
      simp [hexL]
theorem implHex_is (s : ByteArray) (hs : s.size ≤ 20000) (k : Nat) (hk : s.size < k) : impl_Hex.f k s = some (strOfNums (hexL (bs s)), true) := by
  unfold impl_Hex.f
  rw [if_neg (by omega)]
  have := implHex_l0 s hs s.size k 0 [] (by omega) hk (by omega) rfl
  exact this
def figV (c : Int) : Int := if 48 ≤ c ∧ c ≤ 57 then c - 48 else if 97 ≤ c ∧ c ≤ 102 then c - 87 else -1
theorem figV_hexd (d : Int) (h0 : 0 ≤ d) (h1 : d < 16) : figV (hexd d) = d ∧ 48 ≤ hexd d ∧ hexd d ≤ 102 ∧ (hexd d ≤ 57 ∨ 97 ≤ hexd d) := by
  unfold figV hexd
  by_cases h : d < 10
  · rw [if_pos h, if_pos (by omega)]; omega
  · rw [if_neg h, if_neg (by omega), if_pos (by omega)]; omega
theorem implValue_is (c : Int) (a : (48 ≤ c ∧ c ≤ 57) ∨ (97 ≤ c ∧ c ≤ 102)) : strings_IndexByte.f (⟨#[48, 49, 50, 51, 52, 53, 54, 55, 56, 57, 97, 98, 99, 100, 101, 102]⟩ : ByteArray) c = some (figV c) := by
  unfold strings_IndexByte.f
  have h : c = 48 ∨ c = 49 ∨ c = 50 ∨ c = 51 ∨ c = 52 ∨ c = 53 ∨ c = 54 ∨ c = 55 ∨ c = 56 ∨ c = 57 ∨ c = 97 ∨ c = 98 ∨ c = 99 ∨ c = 100 ∨ c = 101 ∨ c = 102 := by omega
  rcases h with rfl | rfl | rfl | rfl | rfl | rfl | rfl | rfl | rfl | rfl | rfl | rfl | rfl | rfl | rfl | rfl <;> decide
theorem hexL_length (xs : List Int) : (hexL xs).length = 2 * xs.length := by
  induction xs with
  | nil => rfl
  | cons c xs ih => rw [hexL_cons]; simp only [List.length_cons]; omega
theorem hexL_get (xs : List Int) : ∀ (j : Nat) (x : Int), xs[j]? = some x → (hexL xs)[2 * j]? = some (hexd (x / 16)) ∧ (hexL xs)[2 * j + 1]? = some (hexd (x % 16)) := by
  induction xs with
  | nil => intro j x h; simp at h
  | cons c xs ih =>
    intro j x h
    rw [hexL_cons]
    cases j with
    | zero =>
      simp only [List.getElem?_cons_zero, Option.some.injEq] at h
      subst h
      exact ⟨rfl, rfl⟩
    | succ j =>
      rw [List.getElem?_cons_succ] at h
      obtain ⟨h1, h2⟩ := ih j x h
      exact ⟨h1, h2⟩
theorem hexL_range (xs : List Int) (hx : ∀ x ∈ xs, 0 ≤ x ∧ x ≤ 255) : ∀ y ∈ hexL xs, 0 ≤ y ∧ y ≤ 255 := by
  induction xs with
  | nil => intro y hy; cases hy
  | cons c xs ih =>
    intro y hy
    have hc := hx c (List.mem_cons_self ..)
    have f1 := figV_hexd (c / 16) (by omega) (by omega)
    have f2 := figV_hexd (c % 16) (by omega) (by omega)
    rw [hexL_cons, List.mem_cons, List.mem_cons] at hy
    rcases hy with rfl | rfl | hy
    · omega
    · omega
    · exact ih (fun x h => hx x (List.mem_cons_of_mem _ h)) y hy
theorem implUnhex_l0 (h : ByteArray) (xs : List Int) (hx : ∀ x ∈ xs, 0 ≤ x ∧ x ≤ 255) (hh : bs h = hexL xs) (hl : xs.length ≤ 20000) (d : Nat) : ∀ (k j : Nat) (acc : List Int), xs.length - j = d → d < k → j ≤ xs.length → acc.length = j →
    impl_Unhex.l0 k h acc ((2 * j : Nat) : Int) = some (strOfNums (acc ++ xs.drop j), true) := by
  have hsz : h.size = 2 * xs.length := by rw [← bs_length, hh, hexL_length]
  induction d with
  | zero =>
    intro k j acc hd hk hj ha
    obtain ⟨k, rfl⟩ : ∃ k', k = k' + 1 := ⟨k - 1, by omega⟩
    rw [impl_Unhex.l0, if_neg (by omega), List.drop_eq_nil_of_le (by omega), List.append_nil]
  | succ d ih =>
    intro k j acc hd hk hj ha
    obtain ⟨k, rfl⟩ : ∃ k', k = k' + 1 := ⟨k - 1, by omega⟩
    have hlt : j < xs.length := by omega
    have hxj := hx xs[j] (List.getElem_mem hlt)
    obtain ⟨g1, g2⟩ := hexL_get xs j xs[j] (List.getElem?_eq_getElem hlt)
    rw [← hh, bs_get h (2 * j) (by omega)] at g1
    rw [← hh, bs_get h (2 * j + 1) (by omega)] at g2
    have g1 := Option.some.inj g1
    have g2 := Option.some.inj g2
    have f1 := figV_hexd (xs[j] / 16) (by omega) (by omega)
    have f2 := figV_hexd (xs[j] % 16) (by omega) (by omega)
    have hw : wrap64 (((2 * j : Nat) : Int) + 1) = ((2 * j + 1 : Nat) : Int) := by rw [w64 (by omega) (by omega)]; omega
    have hw2 : wrap64 (((2 * j : Nat) : Int) + 2) = ((2 * (j + 1) : Nat) : Int) := by rw [w64 (by omega) (by omega)]; omega
    have hv : (wrap64 (wrap64 (16 * (xs[j] / 16)) + xs[j] % 16)) % 256 = xs[j] := by
      rw [w64 (n := 16 * _) (by omega) (by omega), w64 (by omega) (by omega)]; omega
    rw [impl_Unhex.l0, if_pos (by omega), if_pos (by omega), hw, g1, g2, implValue_is _ (by omega), Option.bind_some, if_pos (by omega), if_pos (by omega), implValue_is _ (by omega), Option.bind_some, f1.1, f2.1, if_neg (by omega), if_neg (by omega), if_pos (by omega), hv, hw2,
      ih k (j + 1) _ (by omega) (by omega) (by omega) (by rw [List.length_append, ha]; rfl), List.drop_eq_getElem_cons hlt, List.append_assoc]
    rfl
theorem implUnhex_is (s : ByteArray) (hs : s.size ≤ 20000) (k : Nat) (hk : s.size + 2 < k) : impl_Unhex.f k (strOfNums (hexL (bs s))) = some (s, true) := by
  have hr : ∀ x ∈ bs s, 0 ≤ x ∧ x ≤ 255 := fun x hx => bs_range hx
  have hb : bs (strOfNums (hexL (bs s))) = hexL (bs s) := bs_str (hexL_range _ hr)
  have hsz : (strOfNums (hexL (bs s))).size = 2 * s.size := by rw [str_size, hexL_length, bs_length]
  obtain ⟨k, rfl⟩ : ∃ k', k = k' + 1 := ⟨k - 1, by omega⟩
  unfold impl_Unhex.f
  rw [if_pos (by omega), decide_eq_false (by omega), impl_Unhex.j0, if_neg (by simp)]
  have := implUnhex_l0 _ (bs s) hr hb (by rw [bs_length]; exact hs) s.size k 0 [] (by rw [bs_length]; omega) (by omega) (by omega) rfl
  rw [List.drop_zero, List.nil_append, str_bs] at this
  exact this

/-! ### lists -/
theorem drop_get {α : Type} (xs : List α) (i : Nat) (h : i < xs.length) : xs.drop i = xs[i] :: xs.drop (i + 1) := List.drop_eq_getElem_cons h
theorem w64_len {i n : Nat} (h : i < n) (hn : n ≤ 9223372036854775807) : wrap64 ((i : Int) + 1) = ((i + 1 : Nat) : Int) := by
  rw [w64 (by omega) (by omega)]; omega
theorem take_set {α : Type} (acc : List α) (i : Nat) (v : α) (h : i < acc.length) : (acc.set i v).take (i + 1) = acc.take i ++ [v] := by
  rw [List.take_add_one, List.getElem?_set_self h, List.take_set_of_le (Nat.le_refl i)]; rfl

/-! ### draw -/
/-! what is drawn: the cursor stays within the code; each answer within its bounds -/
theorem and255_range (x : Int) : 0 ≤ Go.bits .and .i64 x 255 ∧ Go.bits .and .i64 x 255 ≤ 255 := by
  have h : Go.bits .and .i64 x 255 = IntKind.i64.wrap (((BitVec.ofInt 64 x) &&& (BitVec.ofInt 64 255)).toNat : Int) := rfl
  have h2 : ((BitVec.ofInt 64 x) &&& (BitVec.ofInt 64 255)).toNat ≤ 255 := by
    rw [BitVec.toNat_and, show (BitVec.ofInt 64 255).toNat = 255 from by decide]
    exact Nat.and_le_right
  rw [h, IntKind.wrap_i64]
  omega
theorem l01New_l0 (b : List Int) (hb : b.length ≤ 140737488351232) (d : Nat) : ∀ (k i : Nat) (h : Int), 4000 - i ≤ d → d < k → i ≤ 4000 → ∃ h', spec_l01New.l0 k b h (i : Int) = some (b, 0, h') := by
  induction d with
  | zero =>
    intro k i h hd hk hi
    obtain ⟨k, rfl⟩ : ∃ m, k = m + 1 := ⟨k - 1, by omega⟩
    rw [spec_l01New.l0]
    by_cases c : (i : Int) < (b.length : Int)
    · rw [if_pos c, if_neg (by omega)]; exact ⟨_, rfl⟩
    · rw [if_neg c]; exact ⟨_, rfl⟩
  | succ d ih =>
    intro k i h hd hk hi
    obtain ⟨k, rfl⟩ : ∃ m, k = m + 1 := ⟨k - 1, by omega⟩
    rw [spec_l01New.l0]
    by_cases c : (i : Int) < (b.length : Int)
    · rw [if_pos c]
      by_cases c2 : (i : Int) < 4000
      · rw [if_pos c2, if_pos (by omega), w64_len (n := 4000) (by omega) (by omega)]
        exact ih k (i + 1) _ (by omega) (by omega) (by omega)
      · rw [if_neg c2]; exact ⟨_, rfl⟩
    · rw [if_neg c]; exact ⟨_, rfl⟩
theorem l01New_is (b : List Int) (hb : b.length ≤ 140737488351232) (k : Nat) (hk : 4001 ≤ k) : ∃ h', spec_l01New.f k b = some (b, 0, h') := by
  unfold spec_l01New.f
  exact l01New_l0 b hb 4000 k 0 _ (by omega) (by omega) (by omega)
/-- The cursor stands within the code. -/
def At (b : List Int) (i : Int) : Prop := b.length ≤ 140737488351232 ∧ 0 ≤ i ∧ i ≤ (b.length : Int)
theorem l01Byte_is (b : List Int) (i h : Int) (hi : At b i) : ∃ r i' h', spec_l01Byte.f b i h = some (r, i', h') ∧ (0 ≤ r ∧ r ≤ 255) ∧ At b i' := by
  obtain ⟨hb, h0, h1⟩ := hi
  unfold spec_l01Byte.f
  by_cases c : i < (b.length : Int)
  · rw [if_pos c, if_pos h0]
    refine ⟨_, _, _, rfl, and255_range _, hb, ?_⟩
    rw [w64 (by omega) (by omega)]
    omega
  · rw [if_neg c]
    exact ⟨_, _, _, rfl, and255_range _, hb, h0, h1⟩
theorem l01Below_is (b : List Int) (i h : Int) (hi : At b i) (n : Int) (hn : 0 < n) : ∃ r i' h', spec_l01Below.f b i h n = some (r, i', h') ∧ (0 ≤ r ∧ r < n) ∧ At b i' := by
  unfold spec_l01Below.f
  rw [if_neg (by omega)]
  by_cases c : n ≤ 256
  · obtain ⟨r, i', h', e, hr, ha⟩ := l01Byte_is b i h hi
    rw [if_pos c, e, Option.bind_some, if_neg (by omega)]
    refine ⟨_, _, _, rfl, ?_, ha⟩
    show 0 ≤ Int.tmod r n ∧ Int.tmod r n < n
    rw [tmod_e hr.1]
    exact ⟨Int.emod_nonneg _ (by omega), Int.emod_lt_of_pos _ hn⟩
  · obtain ⟨r1, i1, h1, e1, b1, a1⟩ := l01Byte_is b i h hi
    obtain ⟨r2, i2, h2, e2, b2, a2⟩ := l01Byte_is b i1 h1 a1
    obtain ⟨r3, i3, h3, e3, b3, a3⟩ := l01Byte_is b i2 h2 a2
    obtain ⟨r4, i4, h4, e4, b4, a4⟩ := l01Byte_is b i3 h3 a3
    rw [if_neg c, e1, Option.bind_some, e2, Option.bind_some, e3, Option.bind_some, e4, Option.bind_some, if_neg (by omega)]
    refine ⟨_, _, _, rfl, ?_, a4⟩
    show 0 ≤ Int.tmod (wrap64 (wrap64 (wrap64 (wrap64 (r1 * 16777216) + wrap64 (r2 * 65536)) + wrap64 (r3 * 256)) + r4)) n ∧ Int.tmod (wrap64 (wrap64 (wrap64 (wrap64 (r1 * 16777216) + wrap64 (r2 * 65536)) + wrap64 (r3 * 256)) + r4)) n < n
    have hx : 0 ≤ wrap64 (wrap64 (wrap64 (wrap64 (r1 * 16777216) + wrap64 (r2 * 65536)) + wrap64 (r3 * 256)) + r4) := by
      rw [w64 (n := r1 * 16777216) (by omega) (by omega), w64 (n := r2 * 65536) (by omega) (by omega), w64 (n := r3 * 256) (by omega) (by omega), w64 (n := r1 * 16777216 + r2 * 65536) (by omega) (by omega),
        w64 (n := r1 * 16777216 + r2 * 65536 + r3 * 256) (by omega) (by omega), w64 (by omega) (by omega)]
      omega
    rw [tmod_e hx]
    exact ⟨Int.emod_nonneg _ (by omega), Int.emod_lt_of_pos _ hn⟩

/-! ### drawPickI -/
theorem l01PickInt_is (b : List Int) (i h : Int) (hi : At b i) (xs : List Int) (hx : xs ≠ []) : ∃ r i' h', spec_l01PickInt.f b i h xs = some (r, i', h') ∧ r ∈ xs ∧ At b i' := by
  have hl : 0 < xs.length := List.length_pos_iff.2 hx
  obtain ⟨r, i', h', e, hr, ha⟩ := l01Below_is b i h hi (xs.length : Int) (by omega)
  unfold spec_l01PickInt.f
  rw [e, Option.bind_some, if_pos hr.1, if_pos hr.2]
  refine ⟨_, _, _, rfl, ?_, ha⟩
  show rd xs r ∈ xs
  unfold rd
  rw [List.getD_eq_getElem?_getD, List.getElem?_eq_getElem (by omega), Option.getD_some]
  exact List.getElem_mem _

/-! ### drawHex -/
/-! what is drawn as a text -/
theorem l01Once_is (b : List Int) (i h : Int) (hi : At b i) (n : Int) (hn : 0 < n) : ∃ r i' h', spec_l01Once.f b i h n = some (r, i', h') ∧ At b i' := by
  obtain ⟨r, i', h', e, _, ha⟩ := l01Below_is b i h hi n hn
  exact ⟨_, _, _, by unfold spec_l01Once.f; rw [e, Option.bind_some], ha⟩
theorem l01Long_l0 (n : Nat) (hn : n ≤ 100000000) (c : Int) (d : Nat) : ∀ (k i : Nat) (xs : List Int), n - i ≤ d → d < k → xs.length = n → ∃ t, spec_l01Long.l0 k (n : Int) c xs (i : Int) = some t := by
  induction d with
  | zero =>
    intro k i xs hd hk hl
    obtain ⟨k, rfl⟩ : ∃ k', k = k' + 1 := ⟨k - 1, by omega⟩
    rw [spec_l01Long.l0, if_neg (by omega)]
    exact ⟨_, rfl⟩
  | succ d ih =>
    intro k i xs hd hk hl
    obtain ⟨k, rfl⟩ : ∃ k', k = k' + 1 := ⟨k - 1, by omega⟩
    by_cases h : i < n
    · rw [spec_l01Long.l0, if_pos (by omega), if_pos (by omega), if_pos (by omega), w64_len h (by omega)]
      exact ih k (i + 1) _ (by omega) (by omega) (by rw [List.length_set]; exact hl)
    · rw [spec_l01Long.l0, if_neg (by omega)]
      exact ⟨_, rfl⟩
theorem l01Long_is (n : Int) (h0 : 0 ≤ n) (hn : n ≤ 100000000) (c : Int) (k : Nat) (hk : 100000000 < k) : ∃ t, spec_l01Long.f k n c = some t := by
  obtain ⟨m, rfl⟩ := Int.eq_ofNat_of_zero_le h0
  unfold spec_l01Long.f
  rw [if_pos h0, if_pos (by omega)]
  exact l01Long_l0 m (by omega) c m k 0 _ (by omega) (by omega) (by simp)
theorem l01Text_l0 (b : List Int) (n : Nat) (hn : n ≤ 5000) (d : Nat) : ∀ (k i : Nat) (xs : List Int) (j h : Int), n - i ≤ d → d < k → xs.length ≤ i → At b j → ∃ t j' h', spec_l01Text.l0 k (n : Int) xs (i : Int) b j h = some (t, j', h') ∧ At b j' := by
  induction d with
  | zero =>
    intro k i xs j h hd hk hl ha
    obtain ⟨k, rfl⟩ : ∃ k', k = k' + 1 := ⟨k - 1, by omega⟩
    rw [spec_l01Text.l0, if_neg (by omega)]
    exact ⟨_, _, _, rfl, ha⟩
  | succ d ih =>
    intro k i xs j h hd hk hl ha
    obtain ⟨k, rfl⟩ : ∃ k', k = k' + 1 := ⟨k - 1, by omega⟩
    by_cases c : i < n
    · obtain ⟨r, j1, h1, e1, _, a1⟩ := l01Byte_is b j h ha
      rw [spec_l01Text.l0, if_pos (by omega), e1, Option.bind_some, if_pos (by omega), w64_len c (by omega)]
      exact ih k (i + 1) _ _ _ (by omega) (by omega) (by rw [List.length_append, List.length_singleton]; omega) a1
    · rw [spec_l01Text.l0, if_neg (by omega)]
      exact ⟨_, _, _, rfl, ha⟩
theorem l01Text_is (b : List Int) (j h : Int) (ha : At b j) (n : Int) (h0 : 0 ≤ n) (hn : n ≤ 5000) (k : Nat) (hk : 5002 < k) : ∃ t j' h', spec_l01Text.f k b j h n = some (t, j', h') ∧ At b j' := by
  obtain ⟨m, rfl⟩ := Int.eq_ofNat_of_zero_le h0
  obtain ⟨k, rfl⟩ : ∃ k', k = k' + 1 := ⟨k - 1, by omega⟩
  unfold spec_l01Text.f
  rw [if_neg (by omega), spec_l01Text.j0]
  exact l01Text_l0 b m (by omega) m k 0 [] j h (by omega) (by omega) (by simp) ha
theorem drawHex_is (b : List Int) (hb : b.length ≤ 140737488351232) (k : Nat) (hk : 100000001 ≤ k) : ∃ t, spec_DrawHex.f k b = some t := by
  unfold spec_DrawHex.f
  obtain ⟨h, e⟩ := l01New_is b hb k (by omega)
  have ha : At b 0 := ⟨hb, by omega, by omega⟩
  obtain ⟨r, j1, h1, e1, a1⟩ := l01Once_is b 0 h ha 60 (by omega)
  rw [e, Option.bind_some, e1, Option.bind_some]
  cases r with
  | true =>
    obtain ⟨r2, j2, h2, e2, hr, a2⟩ := l01Below_is b j1 h1 a1 2 (by omega)
    rw [if_pos rfl]
    show ∃ t, ((spec_l01Below.f b j1 h1 2).bind _ : Option _) = some t
    rw [e2, Option.bind_some]
    obtain ⟨t, ht⟩ := l01Long_is (wrap64 (20000 + r2)) (by rw [w64 (by omega) (by omega)]; omega) (by rw [w64 (by omega) (by omega)]; omega) 200 k (by omega)
    exact ⟨t, by show ((spec_l01Long.f k (wrap64 (20000 + r2)) 200).bind _ : Option _) = _; rw [ht, Option.bind_some]⟩
  | false =>
    obtain ⟨r2, j2, h2, e2, hr, a2⟩ := l01Below_is b j1 h1 a1 30 (by omega)
    rw [if_neg (by simp)]
    show ∃ t, ((spec_l01Below.f b j1 h1 30).bind _ : Option _) = some t
    rw [e2, Option.bind_some]
    obtain ⟨t, j3, h3, e3, _⟩ := l01Text_is b j2 h2 a2 r2 (by omega) (by omega) k (by omega)
    exact ⟨t, by show ((spec_l01Text.f k b j2 h2 r2).bind _ : Option _) = _; rw [e3, Option.bind_some]⟩

/-! ### FnNumbers -/
theorem l01Number_is (b : List Int) (i h : Int) (hi : At b i) : ∃ r i' h', spec_l01Number.f b i h = some (r, i', h') ∧ At b i' := by
  unfold spec_l01Number.f
  obtain ⟨r, i1, h1, e1, hr, a1⟩ := l01Below_is b i h hi 4 (by omega)
  rw [e1, Option.bind_some]
  by_cases c0 : r = 0
  · obtain ⟨r2, i2, h2, e2, _, a2⟩ := l01PickInt_is b i1 h1 a1 ([(-1), 0, 127, 128, 16383, 16384, 1000000000, 1000000001, 9223372036854775807, (-9223372036854775808)] : List Int) (by simp)
    rw [if_pos c0]
    exact ⟨_, _, _, by show ((spec_l01PickInt.f b i1 h1 _).bind _ : Option _) = _; rw [e2, Option.bind_some], a2⟩
  · rw [if_neg c0]
    by_cases c1 : r = 1
    · obtain ⟨r2, i2, h2, e2, _, a2⟩ := l01Below_is b i1 h1 a1 1000000000 (by omega)
      rw [if_pos c1]
      exact ⟨_, _, _, by show ((spec_l01Below.f b i1 h1 _).bind _ : Option _) = _; rw [e2, Option.bind_some], a2⟩
    · obtain ⟨r2, i2, h2, e2, _, a2⟩ := l01Below_is b i1 h1 a1 400 (by omega)
      rw [if_neg c1]
      exact ⟨_, _, _, by show ((spec_l01Below.f b i1 h1 _).bind _ : Option _) = _; rw [e2, Option.bind_some], a2⟩
theorem drawVarText_is (b : List Int) (hb : b.length ≤ 140737488351232) (k : Nat) (hk : 4001 ≤ k) : ∃ n, spec_DrawVarText.f k b = some n := by
  unfold spec_DrawVarText.f
  obtain ⟨h, e⟩ := l01New_is b hb k hk
  obtain ⟨r, i', h', e2, _⟩ := l01Number_is b 0 h ⟨hb, by omega, by omega⟩
  exact ⟨r, by rw [e, Option.bind_some, e2, Option.bind_some]⟩
theorem tail_is (n : Nat) (V : ByteArray) (hV : V.size ≤ 5) (t : ByteArray) (ht : t.size ≤ 300) (k : Nat) (hk : 1000000020 ≤ k) : laws_FnNumbers.j2 k (n : Int) V true (n : Int) ((1 + V.size : Nat) : Int) true (n : Int) true t = some true := by
  obtain ⟨k, rfl⟩ : ∃ k', k = k' + 1 := ⟨k - 1, by omega⟩
  have h5 := varBytes_five t.size (by omega)
  have hs : impl_ShortText.f k t = some (strOfNums (varBytes t.size) ++ t, true) := by
    unfold impl_ShortText.f
    rw [if_neg (by omega), implVarText_nat _ _ (by omega) (by omega), Option.bind_some, if_pos (by rw [str_size]; omega)]
  rw [laws_FnNumbers.j2, hs, Option.bind_some, implReadShort_is _ _ (by rw [ByteArray.size_append, str_size]; omega) k (by omega), short_at t (by omega), Option.bind_some, implHex_is t (by omega) k (by omega), Option.bind_some, implUnhex_is t (by omega) k (by omega), Option.bind_some]
  rw [if_pos rfl, if_pos rfl, if_pos rfl, if_pos rfl, if_pos rfl, if_pos rfl, if_pos rfl, if_pos rfl, if_pos rfl, if_pos (by rw [w64 (by omega) (by omega)]; omega), if_pos rfl, if_pos rfl]
  simp
theorem mid_is (b : List Int) (hb : b.length ≤ 140737488351232) (n : Nat) (hn : n ≤ 1000000000) (k : Nat) (hk : 1000000022 ≤ k) : laws_FnNumbers.j1 k b (n : Int) = some true := by
  obtain ⟨k, rfl⟩ : ∃ k', k = k' + 1 := ⟨k - 1, by omega⟩
  have h5 := varBytes_five n hn
  have hV : (strOfNums (varBytes n)).size = (varBytes n).length := str_size _
  have h1 : (⟨#[120]⟩ : ByteArray).size = 1 := rfl
  have h2 : (⟨#[121]⟩ : ByteArray).size = 1 := rfl
  have hbs : bs (((⟨#[120]⟩ : ByteArray) ++ strOfNums (varBytes n)) ++ (⟨#[121]⟩ : ByteArray)) = [120] ++ (varBytes n ++ [121]) := by
    rw [bs_append, bs_append, bs_str (varBytes_range _), List.append_assoc]
    rfl
  have hr := readVar_at _ [120] [121] n hn hbs
  rw [List.length_singleton] at hr
  have hr : readVarR (((⟨#[120]⟩ : ByteArray) ++ strOfNums (varBytes n)) ++ (⟨#[121]⟩ : ByteArray)) 1 = ((n : Int), ((1 + (varBytes n).length : Nat) : Int), true) := hr
  obtain ⟨t, ht⟩ := drawHex_is b hb k (by omega)
  have hd : rdec (⟨(Go.Lib.itoa (n : Int)).toArray⟩ : ByteArray) = ((n : Int), true) := rdec_dec (by rw [itoa_nat]) hn
  have hdl : (⟨(Go.Lib.itoa (n : Int)).toArray⟩ : ByteArray).size ≤ 1048576 := by
    have := dec_len 9 n (by omega)
    rw [itoa_nat]
    show (Go.Lib.decDigits n).toArray.size ≤ _
    rw [List.size_toArray]; omega
  rw [laws_FnNumbers.j1, implVarText_nat n k hn (by omega), Option.bind_some, if_pos (by show 1 + (strOfNums (varBytes n)).size ≤ _; omega), if_pos (by show ((⟨#[120]⟩ : ByteArray) ++ strOfNums (varBytes n)).size + 1 ≤ _; rw [ByteArray.size_append]; omega), implReadVar_is _ _ (by show (((⟨#[120]⟩ : ByteArray) ++ strOfNums (varBytes n)) ++ (⟨#[121]⟩ : ByteArray)).size ≤ _; rw [ByteArray.size_append, ByteArray.size_append]; omega) k (by omega), hr, Option.bind_some, implDecimal_is _ (by omega) (by omega), Option.bind_some, implRead_is _ hdl, hd, Option.bind_some, ht, Option.bind_some, ← hV]
  by_cases c : (t.size : Int) > 300
  · rw [if_pos c]
    exact tail_is n _ (show (strOfNums (varBytes n)).size ≤ 5 by omega) _ (by decide) k (by omega)
  · rw [if_neg c]
    exact tail_is n _ (show (strOfNums (varBytes n)).size ≤ 5 by omega) _ (by omega) k (by omega)
theorem FnNumbers : laws_FnNumbers.Pure := by
  intro b _ hb _
  refine ⟨1000000030, ?_⟩
  have hl : b.length ≤ 140737488351232 := by omega
  unfold laws_FnNumbers.f laws_big.f
  rw [Option.bind_some]
  by_cases hbig : (b.length : Int) > 1048576
  · rw [decide_eq_true hbig, if_pos rfl]
  obtain ⟨n, hn⟩ := drawVarText_is b hl 1000000030 (by omega)
  rw [decide_eq_false hbig, if_neg (by simp), hn, Option.bind_some]
  have h12 : laws_FnNumbers.j1 1000000029 b 12345 = some true := mid_is b hl 12345 (by omega) _ (by omega)
  by_cases h0 : n < 0
  · rw [if_pos h0, show (1000000030 : Nat) = 1000000029 + 1 from rfl, laws_FnNumbers.j0, if_pos rfl, h12]
  · rw [if_neg h0, show (1000000030 : Nat) = 1000000029 + 1 from rfl, laws_FnNumbers.j0]
    by_cases h1 : n > 1000000000
    · rw [if_pos (by simpa using h1), h12]
    · rw [if_neg (by simpa using h1)]
      obtain ⟨m, rfl⟩ := Int.eq_ofNat_of_zero_le (show 0 ≤ n by omega)
      exact mid_is b hl m (by omega) _ (by omega)

end Go.Proofs.YtkbgmojomgelbaaDoor.Pure
