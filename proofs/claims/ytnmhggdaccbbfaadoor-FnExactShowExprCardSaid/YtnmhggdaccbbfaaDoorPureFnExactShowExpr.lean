/- FnExactShowExpr without Go: at every expression the program's ShowExpr and the reference's show the same text. -/
import Derived.Test.YtnmhggdaccbbfaaDoorMFnExactShowExprok
import Derived.Lib.ItoaLen
import Derived.Lib.ItoaNum
set_option linter.unusedVariables false
set_option linter.unusedSimpArgs false
set_option maxHeartbeats 400000
namespace Go.Proofs.YtnmhggdaccbbfaaDoor.Pure
open Go.RowKit Go.Proofs.YtnmhggdaccbbfaaDoor.MFnExactShowExpr Go.Proofs.YtnmhggdaccbbfaaDoorW.PrintWords Go.Proofs.YtnmhggdaccbbfaaDoorW.PrintLast
/-! ### base -/
theorem w64 {n : Int} (h : -9223372036854775808 ≤ n) (h' : n ≤ 9223372036854775807) : wrap64 n = n := by unfold wrap64; omega
theorem w64_succ {i m : Nat} (h : i < m) (hm : m ≤ 140737488351232) : wrap64 ((i : Int) + 1) = ((i + 1 : Nat) : Int) := by
  rw [w64 (by omega) (by omega)]; omega
theorem w64_bt (s : ByteArray) (i : Int) : wrap64 (bt s i) = bt s i := by
  have := bt_range s i
  exact w64 (by omega) (by omega)
/-- A string's bytes as numbers. -/
def bs (s : ByteArray) : List Int := s.data.toList.map fun b => (b.toNat : Int)
theorem bs_length (s : ByteArray) : (bs s).length = s.size := by simp [bs]
theorem bs_get (s : ByteArray) (i : Nat) (h : i < s.size) : (bs s)[i]? = some (bt s i) := by
  have h2 : i < s.data.toList.length := by simpa using h
  simp only [bs, List.getElem?_map, List.getElem?_eq_getElem h2, Option.map_some]
  unfold bt
  rw [dif_pos (by simpa using h)]
  rfl
theorem bs_drop (s : ByteArray) (i : Nat) (h : i < s.size) : (bs s).drop i = bt s i :: (bs s).drop (i + 1) := by
  have h2 : i < (bs s).length := by rw [bs_length]; exact h
  rw [List.drop_eq_getElem_cons h2]
  congr 1
  have := bs_get s i h
  rw [List.getElem?_eq_getElem h2] at this
  exact Option.some.inj this
theorem bs_drop_nil (s : ByteArray) (i : Nat) (h : s.size ≤ i) : (bs s).drop i = [] := List.drop_eq_nil_of_le (by rw [bs_length]; exact h)
theorem bs_range {s : ByteArray} {c : Int} (h : c ∈ bs s) : 0 ≤ c ∧ c ≤ 255 := by
  simp only [bs, List.mem_map] at h
  obtain ⟨b, _, rfl⟩ := h
  have := b.toNat_lt
  omega
theorem bs_inj {s t : ByteArray} (h : bs s = bs t) : s = t := by
  have hd : s.data.toList = t.data.toList := by
    refine List.map_inj_right (f := fun b : UInt8 => (b.toNat : Int)) (fun a b hab => ?_) |>.1 h
    have hab2 : (a.toNat : Int) = b.toNat := hab
    exact UInt8.toNat_inj.1 (by omega)
  cases s; cases t
  simp only [ByteArray.mk.injEq]
  exact Array.toList_inj.1 hd
theorem bs_str {xs : List Int} (h : ∀ x ∈ xs, 0 ≤ x ∧ x ≤ 255) : bs (strOfNums xs) = xs := by
  unfold bs strOfNums
  simp only [List.map_map]
  conv => rhs; rw [← List.map_id xs]
  refine List.map_congr_left fun x hx => ?_
  have := h x hx
  simp only [Function.comp, id, UInt8.toNat_ofNat']
  omega
theorem str_bs (s : ByteArray) : strOfNums (bs s) = s := bs_inj (bs_str fun _ hx => bs_range hx)
theorem str_size (xs : List Int) : (strOfNums xs).size = xs.length := by
  show ((xs.map fun n => UInt8.ofNat n.toNat).toArray).size = xs.length
  simp
theorem bs_append (s t : ByteArray) : bs (s ++ t) = bs s ++ bs t := by
  simp [bs]
theorem bs_empty : bs (⟨#[]⟩ : ByteArray) = [] := rfl
theorem bt_str {xs : List Int} (h : ∀ x ∈ xs, 0 ≤ x ∧ x ≤ 255) (i : Nat) (hi : i < xs.length) : bt (strOfNums xs) i = rd xs i := by
  have h1 := bs_get (strOfNums xs) i (by rw [str_size]; exact hi)
  rw [bs_str h] at h1
  unfold rd
  rw [List.getD_eq_getElem?_getD, Int.toNat_natCast, h1]
  rfl
theorem bt_bs (s : ByteArray) (i : Int) : bt s i = rd (bs s) i := by
  unfold rd
  rw [List.getD_eq_getElem?_getD]
  by_cases h : i.toNat < s.size
  · have := bs_get s i.toNat h
    rw [this]
    unfold bt
    simp only [Int.toNat_natCast]
    rw [dif_pos h]
    rfl
  · rw [List.getElem?_eq_none (by rw [bs_length]; omega)]
    unfold bt
    rw [dif_neg h]
    rfl
theorem toList_eq {s t : ByteArray} : s.toList = t.toList ↔ s = t := by
  rw [ByteArray.toList_eq, ByteArray.toList_eq]
  constructor
  · intro h; cases s; cases t; simpa [Array.toList_inj] using h
  · rintro rfl; rfl
theorem tdiv_e {n : Int} (h : 0 ≤ n) (m : Int) : Int.tdiv n m = n / m := Int.tdiv_eq_ediv_of_nonneg h
theorem tmod_e {n : Int} (h : 0 ≤ n) (m : Int) : Int.tmod n m = n % m := Int.tmod_eq_emod_of_nonneg h

/-! ### lists -/
theorem drop_get {α : Type} (xs : List α) (i : Nat) (h : i < xs.length) : xs.drop i = xs[i] :: xs.drop (i + 1) := List.drop_eq_getElem_cons h
theorem w64_len {i n : Nat} (h : i < n) (hn : n ≤ 9223372036854775807) : wrap64 ((i : Int) + 1) = ((i + 1 : Nat) : Int) := by
  rw [w64 (by omega) (by omega)]; omega
theorem take_set {α : Type} (acc : List α) (i : Nat) (v : α) (h : i < acc.length) : (acc.set i v).take (i + 1) = acc.take i ++ [v] := by
  rw [List.take_add_one, List.getElem?_set_self h, List.take_set_of_le (Nat.le_refl i)]; rfl

/-! ### gen -/
/-! ### loops told once: over a list, place by place -/
theorem gen_to {α β : Type} (L : Nat → List α → List β → Int → Option (List β)) (c : α → β) (xs : List α) (K : Nat)
    (hstep : ∀ (k i : Nat) (acc : List β) (h : i < xs.length), acc.length = xs.length → K ≤ k → L (k + 1) xs acc (i : Int) = L k xs (acc.set i (c xs[i])) ((i + 1 : Nat) : Int))
    (hend : ∀ (k : Nat) (acc : List β), L (k + 1) xs acc (xs.length : Int) = some acc) (k : Nat) (acc : List β) (hk : K + xs.length < k) (ha : acc.length = xs.length) : L k xs acc 0 = some (xs.map c) := by
  have go : ∀ (d k i : Nat) (acc : List β), xs.length - i ≤ d → K + d < k → i ≤ xs.length → acc.length = xs.length → acc.take i = (xs.take i).map c → L k xs acc (i : Int) = some (xs.map c) := by
    intro d
    induction d with
    | zero =>
      intro k i acc hd hk hi ha ht
      obtain ⟨k, rfl⟩ : ∃ m, k = m + 1 := ⟨k - 1, by omega⟩
      obtain rfl : i = xs.length := by omega
      rw [hend]
      rw [List.take_length, ← ha, List.take_length] at ht
      rw [ht]
    | succ d ih =>
      intro k i acc hd hk hi ha ht
      obtain ⟨k, rfl⟩ : ∃ m, k = m + 1 := ⟨k - 1, by omega⟩
      by_cases hi2 : i < xs.length
      · rw [hstep k i acc hi2 ha (by omega)]
        refine ih k (i + 1) _ (by omega) (by omega) (by omega) (by rw [List.length_set]; exact ha) ?_
        rw [take_set acc i _ (by omega), ht, List.take_add_one, List.getElem?_eq_getElem hi2, List.map_append]
        rfl
      · obtain rfl : i = xs.length := by omega
        rw [hend]
        rw [List.take_length, ← ha, List.take_length] at ht
        rw [ht]
  exact go xs.length k 0 acc (by omega) hk (by omega) ha (by simp)
theorem gen_eq {β : Type} (L : Nat → List β → List β → Int → Option Bool) (xs : List β) (K : Nat)
    (hstep : ∀ (k i : Nat), i < xs.length → K ≤ k → L (k + 1) xs xs (i : Int) = L k xs xs ((i + 1 : Nat) : Int))
    (hend : ∀ k : Nat, L (k + 1) xs xs (xs.length : Int) = some true) (k : Nat) (hk : K + xs.length < k) : L k xs xs 0 = some true := by
  have go : ∀ (d k i : Nat), xs.length - i ≤ d → K + d < k → i ≤ xs.length → L k xs xs (i : Int) = some true := by
    intro d
    induction d with
    | zero =>
      intro k i hd hk hi
      obtain ⟨k, rfl⟩ : ∃ m, k = m + 1 := ⟨k - 1, by omega⟩
      obtain rfl : i = xs.length := by omega
      exact hend k
    | succ d ih =>
      intro k i hd hk hi
      obtain ⟨k, rfl⟩ : ∃ m, k = m + 1 := ⟨k - 1, by omega⟩
      by_cases hi2 : i < xs.length
      · rw [hstep k i hi2 (by omega)]
        exact ih k (i + 1) (by omega) (by omega) (by omega)
      · obtain rfl : i = xs.length := by omega
        exact hend k
  exact go xs.length k 0 (by omega) hk (by omega)
theorem gen_sz {α : Type} (L : Nat → List α → Int → Int → Option Int) (xs : List α) (P : α → Prop) (K : Nat)
    (hstep : ∀ (k i : Nat) (left : Int) (h : i < xs.length), 0 ≤ left → left ≤ 1048576 → K ≤ k → L (k + 1) xs left (i : Int) = some (-1) ∨ ∃ t, 0 ≤ t ∧ t ≤ left ∧ P xs[i] ∧ L (k + 1) xs left (i : Int) = L k xs t ((i + 1 : Nat) : Int))
    (hend : ∀ (k : Nat) (left : Int), L (k + 1) xs left (xs.length : Int) = some left) (k : Nat) (left : Int) (hk : K + xs.length < k) (h0 : 0 ≤ left) (h1 : left ≤ 1048576) :
    L k xs left 0 = some (-1) ∨ ∃ r, L k xs left 0 = some r ∧ 0 ≤ r ∧ r ≤ left ∧ ∀ y ∈ xs, P y := by
  have go : ∀ (d k i : Nat) (left : Int), xs.length - i ≤ d → K + d < k → i ≤ xs.length → 0 ≤ left → left ≤ 1048576 → L k xs left (i : Int) = some (-1) ∨ ∃ r, L k xs left (i : Int) = some r ∧ 0 ≤ r ∧ r ≤ left ∧ ∀ y ∈ xs.drop i, P y := by
    intro d
    induction d with
    | zero =>
      intro k i left hd hk hi h0 h1
      obtain ⟨k, rfl⟩ : ∃ m, k = m + 1 := ⟨k - 1, by omega⟩
      obtain rfl : i = xs.length := by omega
      exact .inr ⟨left, hend k left, h0, Int.le_refl _, by simp⟩
    | succ d ih =>
      intro k i left hd hk hi h0 h1
      obtain ⟨k, rfl⟩ : ∃ m, k = m + 1 := ⟨k - 1, by omega⟩
      by_cases hi2 : i < xs.length
      · rcases hstep k i left hi2 h0 h1 (by omega) with h | ⟨t, t0, t1, hp, h⟩
        · exact .inl h
        · rw [h]
          rcases ih k (i + 1) t (by omega) (by omega) (by omega) t0 (by omega) with h | ⟨r, hr, r0, r1, ha⟩
          · exact .inl h
          · refine .inr ⟨r, hr, r0, by omega, fun y hy => ?_⟩
            rw [drop_get xs i hi2, List.mem_cons] at hy
            rcases hy with rfl | hy
            · exact hp
            · exact ha y hy
      · obtain rfl : i = xs.length := by omega
        exact .inr ⟨left, hend k left, h0, Int.le_refl _, by simp⟩
  have := go xs.length k 0 left (by omega) hk (by omega) h0 h1
  simpa using this

/-! ### lawsInt -/
theorem rdInt (xs : List Int) (i : Nat) (h : i < xs.length) : rd xs (i : Int) = xs[i] := by simp [rd, List.getD, h]
theorem szIntS_is (xs : List Int) (hl : xs.length ≤ 9223372036854775807) (left : Int) (h0 : 0 ≤ left) (h1 : left ≤ 1048576) : laws_szIntS.f xs left = some (-1) ∨ ∃ t, laws_szIntS.f xs left = some t ∧ 0 ≤ t ∧ t ≤ left ∧ xs.length ≤ 1048576 := by
  unfold laws_szIntS.f
  rw [w64 (n := left - (xs.length : Int)) (by omega) (by omega)]
  by_cases h : left - (xs.length : Int) < 0
  · rw [if_pos h]; exact .inl rfl
  · rw [if_neg h]; exact .inr ⟨_, rfl, by omega, by omega, by omega⟩
theorem toIntS_is (xs : List Int) (hl : xs.length ≤ 1048576) (k : Nat) (hk : xs.length < k) : laws_toIntS.f k xs = some xs := by
  unfold laws_toIntS.f
  rw [if_pos (by omega), if_pos (by omega)]
  have h := gen_to (fun k x a i => laws_toIntS.l0 k x a i) id xs 0 (fun k i acc h ha _ => by
      show laws_toIntS.l0 (k + 1) xs acc (i : Int) = _
      rw [laws_toIntS.l0, if_pos (by omega), if_pos (by omega), if_pos (by omega), rdInt xs i h, w64_len h (by omega)]; rfl)
    (fun k acc => by show laws_toIntS.l0 (k + 1) xs acc _ = _; rw [laws_toIntS.l0, if_neg (by omega)]) k (List.replicate ((xs.length : Int)).toNat 0) (by omega) (by simp)
  rw [List.map_id] at h
  exact h
theorem eqIntS_self (xs : List Int) (hl : xs.length ≤ 9223372036854775807) (k : Nat) (hk : xs.length < k) : laws_eqIntS.f k xs xs = some true := by
  unfold laws_eqIntS.f
  rw [if_pos rfl]
  exact gen_eq (fun k x a i => laws_eqIntS.l0 k x a i) xs 0 (fun k i h _ => by
      show laws_eqIntS.l0 (k + 1) xs xs (i : Int) = _
      rw [laws_eqIntS.l0, if_pos (by omega), if_pos (by omega), if_pos (by omega), if_pos rfl, w64_len h hl])
    (fun k => by show laws_eqIntS.l0 (k + 1) xs xs _ = _; rw [laws_eqIntS.l0, if_neg (by omega)]) k (by omega)

/-! ### ev -/
theorem Ev.shift {α : Type} {g f : Nat → Option α} {r : α} (c : Nat) (h : ∀ k, g (k + c) = f k) (k : Ev f r) : Ev g r := by
  obtain ⟨K, k⟩ := k
  refine ⟨K + c, fun n hn => ?_⟩
  obtain ⟨m, rfl⟩ : ∃ m, n = m + c := ⟨n - c, by omega⟩
  rw [h]
  exact k m (by omega)
theorem Ev.from {α : Type} {g : Nat → Option α} {r : α} (B : Nat) (h : ∀ k, B < k → g k = some r) : Ev g r := ⟨B + 1, fun k hk => h k (by omega)⟩
theorem Ev.always {α : Type} {g : Nat → Option α} {r : α} (h : ∀ k, g k = some r) : Ev g r := ⟨0, fun k _ => h k⟩

/-! ### lawsExpr -/
/-! what the laws' own small functions tell of expressions -/
theorem rdEL (xs : List S87) (i : Nat) (h : i < xs.length) : rd_T87 xs (i : Int) = xs[i] := by simp [rd_T87, List.getD, h]
theorem rdEI (xs : List S70) (i : Nat) (h : i < xs.length) : rd_T70 xs (i : Int) = xs[i] := by simp [rd_T70, List.getD, h]
def smallE (y : S87) : Prop := y.f2.size ≤ 1048576 ∧ y.f3.length ≤ 1048576
theorem szExNode_is (y : S87) (h2 : y.f2.size ≤ 9223372036854775807) (h3 : y.f3.length ≤ 9223372036854775807) (left : Int) (h0 : 0 ≤ left) (h1 : left ≤ 1048576) :
    laws_szExNode.f y.f0 y.f1 y.f2 y.f3 left = some (-1) ∨ ∃ t, laws_szExNode.f y.f0 y.f1 y.f2 y.f3 left = some t ∧ 0 ≤ t ∧ t ≤ left ∧ smallE y := by
  unfold laws_szExNode.f
  rw [w64 (n := left - (y.f2.size : Int)) (by omega) (by omega)]
  by_cases h : left - (y.f2.size : Int) < 0
  · rw [if_pos h]; exact .inl rfl
  · rw [if_neg h]
    rcases szIntS_is y.f3 h3 (left - (y.f2.size : Int)) (by omega) (by omega) with e | ⟨t, e, t0, t1, l3⟩
    · rw [e, Option.bind_some, if_pos (by omega)]; exact .inl rfl
    · rw [e, Option.bind_some, if_neg (by omega)]; exact .inr ⟨t, rfl, t0, by omega, by unfold smallE; omega⟩
def szExprOk (xs : List S87) : Prop := xs.length ≤ 1048576 ∧ ∀ y ∈ xs, smallE y
theorem szExpr_is (xs : List S87) (hx : ∀ y ∈ xs, ok87 y) (hl : xs.length ≤ 9223372036854775807) (left : Int) (h0 : 0 ≤ left) (h1 : left ≤ 1048576) (k : Nat) (hk : xs.length < k) :
    laws_szExpr.f k xs left = some (-1) ∨ ∃ r, laws_szExpr.f k xs left = some r ∧ 0 ≤ r ∧ r ≤ left ∧ szExprOk xs := by
  unfold laws_szExpr.f laws_szExNodeS.f
  rw [w64 (n := left - (xs.length : Int)) (by omega) (by omega)]
  by_cases h2 : left - (xs.length : Int) < 0
  · rw [if_pos h2, Option.bind_some, if_pos (by omega)]; exact .inl rfl
  · rw [if_neg h2]
    have g := gen_sz (fun k x a i => laws_szExNodeS.l0 k x a i) xs smallE 0 (fun k i left h h0 h1 _ => by
        show laws_szExNodeS.l0 (k + 1) xs left (i : Int) = _ ∨ ∃ t, _ ∧ _ ∧ _ ∧ laws_szExNodeS.l0 (k + 1) xs left (i : Int) = laws_szExNodeS.l0 k xs t ((i + 1 : Nat) : Int)
        have ho := hx xs[i] (List.getElem_mem h)
        have m2 : xs[i].f2.size ≤ 9223372036854775807 := by have := ho.2.2.1; unfold maxLen at this; exact this
        have m3 : xs[i].f3.length ≤ 9223372036854775807 := by have := ho.2.2.2.2; unfold maxLen at this; exact this
        rw [laws_szExNodeS.l0, if_pos (by omega), if_pos (by omega), rdEL xs i h, w64_len h hl]
        rcases szExNode_is xs[i] m2 m3 left h0 h1 with e | ⟨t, e, t0, t1, p⟩
        · rw [e, Option.bind_some, if_pos (by omega)]; exact .inl rfl
        · rw [e, Option.bind_some, if_neg (by omega)]; exact .inr ⟨t, t0, t1, p, rfl⟩)
      (fun k left => by show laws_szExNodeS.l0 (k + 1) xs left _ = _; rw [laws_szExNodeS.l0, if_neg (by omega)]) k (left - (xs.length : Int)) (by omega) (by omega) (by omega)
    rcases g with g | ⟨r, g, r0, r1, ha⟩
    · rw [show laws_szExNodeS.l0 k xs (left - (xs.length : Int)) 0 = some (-1) from g, Option.bind_some, if_pos (by omega)]; exact .inl rfl
    · rw [show laws_szExNodeS.l0 k xs (left - (xs.length : Int)) 0 = some r from g, Option.bind_some, if_neg (by omega)]; exact .inr ⟨r, rfl, r0, by omega, by omega, ha⟩
theorem szExpr_ev (xs : List S87) (hx : ∀ y ∈ xs, ok87 y) (hl : xs.length ≤ 9223372036854775807) (left : Int) (h0 : 0 ≤ left) (h1 : left ≤ 1048576) :
    ∃ r, Ev (fun k => laws_szExpr.f k xs left) r ∧ (0 ≤ r → r ≤ left ∧ szExprOk xs) := by
  rcases szExpr_is xs hx hl left h0 h1 (xs.length + 1) (by omega) with e | ⟨r, e, r0, r1, hz⟩
  · exact ⟨-1, Ev.of (laws_szExpr.mono xs left) e, fun h => absurd h (by omega)⟩
  · exact ⟨r, Ev.of (laws_szExpr.mono xs left) e, fun _ => ⟨r1, hz⟩⟩
def toEN (x : S87) : S70 := ⟨x.f0, x.f1, x.f2, x.f3⟩
theorem toExpr_is (xs : List S87) (hz : szExprOk xs) (k : Nat) (hk : 1048577 + xs.length < k) : laws_toExpr.f k xs = some (xs.map toEN) := by
  obtain ⟨hl, ha⟩ := hz
  unfold laws_toExpr.f laws_toExNodeS.f
  rw [if_pos (by omega), if_pos (by omega)]
  have h := gen_to (fun k x a i => laws_toExNodeS.l0 k x a i) toEN xs 1048577 (fun k i acc h hacc hk => by
      show laws_toExNodeS.l0 (k + 1) xs acc (i : Int) = _
      have p := (ha xs[i] (List.getElem_mem h)).2
      rw [laws_toExNodeS.l0, if_pos (by omega), if_pos (by omega), rdEL xs i h, w64_len h (by omega)]
      unfold laws_toExNode.f
      rw [toIntS_is _ p k (by omega), Option.bind_some, Option.bind_some, if_pos (by omega)]
      rfl)
    (fun k acc => by show laws_toExNodeS.l0 (k + 1) xs acc _ = _; rw [laws_toExNodeS.l0, if_neg (by omega)]) k (List.replicate ((xs.length : Int)).toNat z70) hk (by simp)
  rw [show laws_toExNodeS.l0 k xs (List.replicate ((xs.length : Int)).toNat z70) 0 = _ from h]; rfl
def smallEI (xs : List S70) : Prop := xs.length ≤ 1048576 ∧ ∀ y ∈ xs, y.f2.size ≤ 1048576 ∧ y.f3.length ≤ 1048576
theorem smallEI_of {xs : List S87} (h : szExprOk xs) : smallEI (xs.map toEN) := by
  refine ⟨by rw [List.length_map]; exact h.1, fun y hy => ?_⟩
  obtain ⟨x, hx, rfl⟩ := List.mem_map.1 hy
  exact h.2 x hx
theorem eqExpr_self (xs : List S70) (hz : smallEI xs) (k : Nat) (hk : 1048577 + xs.length < k) : laws_eqExpr.f k xs xs = some true := by
  unfold laws_eqExpr.f laws_eqExNodeS.f
  rw [if_pos rfl]
  have h := gen_eq (fun k x a i => laws_eqExNodeS.l0 k x a i) xs 1048577 (fun k i h hk => by
      show laws_eqExNodeS.l0 (k + 1) xs xs (i : Int) = _
      have p := (hz.2 xs[i] (List.getElem_mem h)).2
      have hl := hz.1
      rw [laws_eqExNodeS.l0, if_pos (by omega), if_pos (by omega), if_pos (by omega), rdEI xs i h, w64_len h (by omega)]
      unfold laws_eqExNode.f
      rw [if_pos (show xs[i].f0 = xs[i].f0 from rfl), if_pos (show xs[i].f1 = xs[i].f1 from rfl), if_pos (show xs[i].f2.toList = xs[i].f2.toList from rfl), eqIntS_self _ (by omega) k (by omega), Option.bind_some, if_pos (show true = true from rfl), Option.bind_some, if_pos (show true = true from rfl)])
    (fun k => by show laws_eqExNodeS.l0 (k + 1) xs xs _ = _; rw [laws_eqExNodeS.l0, if_neg (by omega)]) k (by omega)
  rw [show laws_eqExNodeS.l0 k xs xs 0 = _ from h]
  rfl

/-! ### varNameB -/
/-- 1 to 4 letters a-z. -/
def small (c : Int) : Bool := decide (97 ≤ c ∧ c ≤ 122)
def varNameB (s : ByteArray) : Bool := (bs s).all small && decide (1 ≤ (s.size : Int) ∧ (s.size : Int) ≤ 4)

/-! ### within -/
theorem within_is (a b c : Int) : impl_within.f a b c = some (decide (b ≤ a ∧ a ≤ c)) := by
  unfold impl_within.f
  by_cases h : a ≥ b
  · rw [if_pos h]; simp [show b ≤ a from h]
  · rw [if_neg h]; simp [show ¬ b ≤ a from h]

/-! ### kidsAhead -/
def kidIn (i : Nat) (c : Int) : Bool := decide (0 ≤ c ∧ c ≤ (i : Int) - 1)
def kidsIn (i : Nat) (ks : List Int) : Bool := ks.all (kidIn i)
theorem kidsIn_cons (i : Nat) (c : Int) (ks : List Int) : kidsIn i (c :: ks) = (kidIn i c && kidsIn i ks) := by simp [kidsIn]
theorem implKidsAhead_is (ks : List Int) (hl : ks.length ≤ 1048576) (i : Nat) (hi : i ≤ 9223372036854775807) (k : Nat) (hk : ks.length < k) : impl_kidsAhead.f k ks (i : Int) = some (kidsIn i ks) := by
  have go : ∀ (d k j : Nat), ks.length - j ≤ d → d < k → impl_kidsAhead.l0 k (i : Int) ks (ks.length : Int) (j : Int) = some (kidsIn i (ks.drop j)) := by
    intro d
    induction d with
    | zero =>
      intro k j hd hk
      obtain ⟨k, rfl⟩ : ∃ m, k = m + 1 := ⟨k - 1, by omega⟩
      rw [impl_kidsAhead.l0, if_neg (by omega), List.drop_eq_nil_of_le (by omega)]; rfl
    | succ d ih =>
      intro k j hd hk
      obtain ⟨k, rfl⟩ : ∃ m, k = m + 1 := ⟨k - 1, by omega⟩
      by_cases hj : j < ks.length
      · rw [impl_kidsAhead.l0, if_pos (by omega), if_pos (by omega), if_pos (by omega), rdInt ks j hj, within_is, Option.bind_some, w64 (n := (i : Int) - 1) (by omega) (by omega), w64_len hj (by omega), ih k (j + 1) (by omega) (by omega), drop_get ks j hj, kidsIn_cons]
        rw [show decide (0 ≤ ks[j] ∧ ks[j] ≤ (i : Int) - 1) = kidIn i ks[j] from rfl]
        by_cases hc : kidIn i ks[j] = true
        · rw [if_pos hc, hc, Bool.true_and]
        · rw [if_neg hc, show kidIn i ks[j] = false from by simpa using hc, Bool.false_and]
      · rw [impl_kidsAhead.l0, if_neg (by omega), List.drop_eq_nil_of_le (by omega)]; rfl
  unfold impl_kidsAhead.f
  exact go ks.length k 0 (by omega) hk

/-! ### exprOk -/
theorem rdE (xs : List S70) (i : Nat) (h : i < xs.length) : rd_T70 xs (i : Int) = xs[i] := by simp [rd_T70, List.getD, h]
def kidsOf (op : Int) : Int := if op = 1 ∨ op = 2 ∨ op = 3 then 0 else if op = 11 then 1 else 2
def numOk (op num : Int) : Bool := if op = 1 then decide (0 ≤ num ∧ num ≤ 99) else decide (num = 0)
def nameOk (op : Int) (s : ByteArray) : Bool := if op = 2 then varNameB s else decide (s.toList = ([] : List UInt8))
/-- A node is right at its place. -/
def nodeB (i : Nat) (y : S70) : Bool := decide (1 ≤ y.f0 ∧ y.f0 ≤ 11) && decide ((y.f3.length : Int) = kidsOf y.f0) && numOk y.f0 y.f1 && nameOk y.f0 y.f2 && kidsIn i y.f3
def nodesB : Nat → List S70 → Bool
  | _, [] => true
  | i, y :: l => nodeB i y && nodesB (i + 1) l
/-- An expression is right. -/
def exprOkB (xs : List S70) : Bool := nodesB 0 xs && decide (1 ≤ (xs.length : Int) ∧ (xs.length : Int) ≤ 20)
def smallX (xs : List S70) : Prop := xs.length ≤ 1048576 ∧ ∀ y ∈ xs, y.f2.size ≤ 1048576 ∧ y.f3.length ≤ 1048576
theorem bne_nil (s : ByteArray) : (s.toList != ([] : List UInt8)) = !decide (s.toList = ([] : List UInt8)) := by
  cases h : s.toList <;> simp

/-! ### l01In -/
theorem l01In_is (a b c : Int) : spec_l01In.f a b c = some (decide (b ≤ a ∧ a ≤ c)) := by
  unfold spec_l01In.f
  by_cases h : a ≥ b
  · rw [if_pos h]; simp [show b ≤ a from h]
  · rw [if_neg h]; simp [show ¬ b ≤ a from h]

/-! ### specVarName -/
theorem specVarName_l0 (s : ByteArray) (hs : s.size ≤ 140737488351232) (d : Nat) : ∀ (k i : Nat), s.size - i ≤ d → d < k →
    spec_VarName.l0 k s (i : Int) = some (((bs s).drop i).all small && decide (1 ≤ (s.size : Int) ∧ (s.size : Int) ≤ 4)) := by
  induction d with
  | zero =>
    intro k i hd hk
    obtain ⟨k, rfl⟩ : ∃ m, k = m + 1 := ⟨k - 1, by omega⟩
    simp only [spec_VarName.l0]
    rw [if_neg (by omega), l01In_is, bs_drop_nil s i (by omega)]; simp
  | succ d ih =>
    intro k i hd hk
    obtain ⟨k, rfl⟩ : ∃ m, k = m + 1 := ⟨k - 1, by omega⟩
    by_cases hi : i < s.size
    · have e := ih k (i + 1) (by omega) (by omega)
      simp only [spec_VarName.l0]
      rw [if_pos (by omega), if_pos (by omega), w64_succ hi hs, e, bs_drop s i hi]
      simp only [List.all_cons]
      by_cases h1 : bt s i < 97
      · rw [if_pos h1, show small (bt s i) = false from by simp [small]; omega]; simp
      · by_cases h2 : bt s i > 122
        · rw [if_neg h1, if_pos h2, show small (bt s i) = false from by simp [small]; omega]; simp
        · rw [if_neg h1, if_neg h2, show small (bt s i) = true from by simp [small]; omega]; simp
    · simp only [spec_VarName.l0]
      rw [if_neg (by omega), l01In_is, bs_drop_nil s i (by omega)]; simp
theorem specVarName_is (s : ByteArray) (hs : s.size ≤ 140737488351232) (k : Nat) (hk : s.size < k) : spec_VarName.f k s = some (varNameB s) := by
  unfold spec_VarName.f
  exact specVarName_l0 s hs s.size k 0 (by omega) hk

/-! ### specExprOk -/
section
variable (xs : List S70) (hz : smallX xs) (i : Nat) (hi : i < xs.length) (op num : Int) (s : ByteArray) (hs : s.size ≤ 1048576) (ks : List Int) (hk : ks.length ≤ 1048576) (r : Bool)
theorem specExpr_l1 (hi : i < 9223372036854775807) (hk : ks.length ≤ 1048576) (hn : Ev (fun k => spec_ExprOk.l0 k (wrap64 ((i : Int) + 1)) xs) r) (d : Nat) : ∀ j : Nat, ks.length - j = d → j ≤ ks.length →
    Ev (fun k => spec_ExprOk.l1 k (i : Int) (j : Int) xs op num s ks) (if kidsIn i (ks.drop j) then r else false) := by
  induction d with
  | zero =>
    intro j hd hj
    rw [List.drop_eq_nil_of_le (show ks.length ≤ j by omega), if_pos (by rfl)]
    refine Ev.shift 1 (fun k => ?_) hn
    rw [spec_ExprOk.l1, if_neg (by omega)]
  | succ d ih =>
    intro j hd hj
    have hj2 : j < ks.length := by omega
    have e := ih (j + 1) (by omega) (by omega)
    rw [drop_get ks j hj2, kidsIn_cons]
    by_cases hc : kidIn i ks[j] = true
    · rw [hc, Bool.true_and]
      refine Ev.shift 1 (fun k => ?_) e
      have hc2 : decide (0 ≤ ks[j] ∧ ks[j] ≤ (i : Int) - 1) = true := hc
      rw [spec_ExprOk.l1, if_pos (by omega), if_pos (by omega), rdInt ks j hj2, l01In_is, Option.bind_some, w64 (n := (i : Int) - 1) (by omega) (by omega), hc2, if_pos (show true = true from rfl), w64_len hj2 (by omega)]
    · have hc' : kidIn i ks[j] = false := by simpa using hc
      rw [hc', Bool.false_and, if_neg (by simp)]
      refine Ev.shift 1 (f := fun _ => some false) (fun k => ?_) (Ev.now _)
      have hc2 : decide (0 ≤ ks[j] ∧ ks[j] ≤ (i : Int) - 1) = false := hc'
      rw [spec_ExprOk.l1, if_pos (by omega), if_pos (by omega), rdInt ks j hj2, l01In_is, Option.bind_some, w64 (n := (i : Int) - 1) (by omega) (by omega), hc2, if_neg (by simp)]
theorem specExpr_j2 (hi : i < 9223372036854775807) (hk : ks.length ≤ 1048576) (hn : Ev (fun k => spec_ExprOk.l0 k (wrap64 ((i : Int) + 1)) xs) r) (b : Bool) :
    Ev (fun k => spec_ExprOk.j2 k (i : Int) b xs op num s ks) (if !b && kidsIn i ks then r else false) := by
  cases b with
  | true =>
    refine Ev.shift 1 (f := fun _ => some false) (fun k => ?_) (Ev.now _)
    rw [spec_ExprOk.j2, if_pos (show true = true from rfl)]
  | false =>
    have e := specExpr_l1 xs i op num s ks r hi hk hn ks.length 0 (by omega) (by omega)
    rw [List.drop_zero] at e
    refine Ev.shift 1 (fun k => ?_) e
    rw [spec_ExprOk.j2, if_neg (by simp)]; rfl
theorem specExpr_j1 (hi : i < 9223372036854775807) (hk : ks.length ≤ 1048576) (hs : s.size ≤ 1048576) (hn : Ev (fun k => spec_ExprOk.l0 k (wrap64 ((i : Int) + 1)) xs) r) (b : Bool) :
    Ev (fun k => spec_ExprOk.j1 k (i : Int) b xs op num s ks) (if !b && numOk op num && nameOk op s && kidsIn i ks then r else false) := by
  have J := specExpr_j2 xs i op num s ks r hi hk hn
  have hv : Ev (fun k => spec_VarName.f k s) (varNameB s) := Ev.from s.size (fun k hk => specVarName_is s (by omega) k hk)
  cases b with
  | true =>
    refine Ev.shift 1 (f := fun _ => some false) (fun k => ?_) (Ev.now _)
    rw [spec_ExprOk.j1, if_pos (show true = true from rfl)]
  | false =>
    have name : ∀ c : Bool, c = true → Ev (fun k => if op = 2 then ((spec_VarName.f k s).bind fun t => (if t = true then spec_ExprOk.j2 k (i : Int) false xs op num s ks else spec_ExprOk.j2 k (i : Int) true xs op num s ks)) else spec_ExprOk.j2 k (i : Int) (s.toList != ([] : List UInt8)) xs op num s ks) (if nameOk op s && kidsIn i ks then r else false) := by
      intro _ _
      by_cases h2 : op = 2
      · refine Ev.congr (fun k => if_pos h2) (Ev.bind hv ?_)
        have hnm : nameOk op s = varNameB s := by unfold nameOk; rw [if_pos h2]
        rw [hnm]
        by_cases hb : varNameB s = true
        · rw [hb]; exact Ev.congr (fun k => if_pos rfl) (J false)
        · rw [show varNameB s = false from by simpa using hb]; exact Ev.congr (fun k => if_neg (by simp)) (J true)
      · refine Ev.congr (fun k => if_neg h2) ?_
        have hnm : nameOk op s = !(s.toList != ([] : List UInt8)) := by unfold nameOk; rw [if_neg h2, bne_nil, Bool.not_not]
        rw [hnm]
        exact J _
    by_cases h1 : op = 1
    · have hnum : numOk op num = decide (0 ≤ num ∧ num ≤ 99) := by unfold numOk; rw [if_pos h1]
      refine Ev.shift 1 (f := fun k => (spec_l01In.f num 0 99).bind fun t => (if t = true then (if op = 2 then ((spec_VarName.f k s).bind fun t => (if t = true then spec_ExprOk.j2 k (i : Int) false xs op num s ks else spec_ExprOk.j2 k (i : Int) true xs op num s ks)) else spec_ExprOk.j2 k (i : Int) (s.toList != ([] : List UInt8)) xs op num s ks) else spec_ExprOk.j2 k (i : Int) true xs op num s ks)) (fun k => ?_) ?_
      · rw [spec_ExprOk.j1, if_neg (by simp), if_pos h1]
      · rw [l01In_is, hnum]
        simp only [Option.bind_some, Bool.not_false, Bool.true_and]
        by_cases hb : decide (0 ≤ num ∧ num ≤ 99) = true
        · rw [hb]; exact Ev.congr (fun k => if_pos rfl) (name true rfl)
        · rw [show decide (0 ≤ num ∧ num ≤ 99) = false from by simpa using hb]; exact Ev.congr (fun k => if_neg (by simp)) (J true)
    · have hnum : numOk op num = decide (num = 0) := by unfold numOk; rw [if_neg h1]
      by_cases h0 : num = 0
      · refine Ev.shift 1 (f := fun k => if op = 2 then ((spec_VarName.f k s).bind fun t => (if t = true then spec_ExprOk.j2 k (i : Int) false xs op num s ks else spec_ExprOk.j2 k (i : Int) true xs op num s ks)) else spec_ExprOk.j2 k (i : Int) (s.toList != ([] : List UInt8)) xs op num s ks) (fun k => ?_) ?_
        · rw [spec_ExprOk.j1, if_neg (by simp), if_neg h1, if_pos h0]
        · rw [hnum, show decide (num = 0) = true from decide_eq_true h0]
          exact name true rfl
      · refine Ev.shift 1 (f := fun k => spec_ExprOk.j2 k (i : Int) true xs op num s ks) (fun k => ?_) ?_
        · rw [spec_ExprOk.j1, if_neg (by simp), if_neg h1, if_neg h0]
        · rw [hnum, show decide (num = 0) = false from decide_eq_false h0]
          exact J true
end
theorem specKids_ev (op : Int) : Ev (fun k => spec_l04Kids.f k op) (kidsOf op) := by
  have j : ∀ b : Bool, Ev (fun k => spec_l04Kids.j0 k op b) (if b then 0 else if op = 11 then 1 else 2) := by
    intro b
    refine Ev.shift 1 (f := fun _ => some (if b then 0 else if op = 11 then 1 else 2)) (fun k => ?_) (Ev.now _)
    rw [spec_l04Kids.j0]
    cases b <;> simp
    split <;> rfl
  unfold spec_l04Kids.f kidsOf
  by_cases h1 : op = 1
  · rw [if_pos (.inl h1)]
    have e := j (op == 1)
    rw [show (op == 1) = true from by simpa using h1] at e
    exact Ev.congr (fun k => by rw [if_pos h1, show (op == 1) = true from by simpa using h1]) e
  · by_cases h2 : op = 2
    · rw [if_pos (.inr (.inl h2))]
      have e := j (op == 2)
      rw [show (op == 2) = true from by simpa using h2] at e
      exact Ev.congr (fun k => by rw [if_neg h1, if_pos h2, show (op == 2) = true from by simpa using h2]) e
    · by_cases h3 : op = 3
      · rw [if_pos (.inr (.inr h3))]
        have e := j (op == 3)
        rw [show (op == 3) = true from by simpa using h3] at e
        exact Ev.congr (fun k => by rw [if_neg h1, if_neg h2, show (op == 3) = true from by simpa using h3]) e
      · rw [if_neg (by rintro (h | h | h) <;> contradiction)]
        have e := j (op == 3)
        rw [show (op == 3) = false from by simpa using h3] at e
        exact Ev.congr (fun k => by rw [if_neg h1, if_neg h2, show (op == 3) = false from by simpa using h3]) e
theorem specExpr_l0 (xs : List S70) (hz : smallX xs) (d : Nat) : ∀ i : Nat, xs.length - i = d → i ≤ xs.length →
    Ev (fun k => spec_ExprOk.l0 k (i : Int) xs) (nodesB i (xs.drop i) && decide (1 ≤ (xs.length : Int) ∧ (xs.length : Int) ≤ 20)) := by
  have hl := hz.1
  induction d with
  | zero =>
    intro i hd hi
    refine Ev.shift 1 (f := fun _ => some _) (fun k => ?_) (Ev.now _)
    rw [spec_ExprOk.l0, if_neg (by omega), List.drop_eq_nil_of_le (by omega), l01In_is]; rfl
  | succ d ih =>
    intro i hd hi
    have hi2 : i < xs.length := by omega
    have e := ih (i + 1) (by omega) (by omega)
    have hy := hz.2 _ (List.getElem_mem hi2)
    rw [← w64_len hi2 (by omega)] at e
    have J := specExpr_j1 xs i xs[i].f0 xs[i].f1 xs[i].f2 xs[i].f3 _ (by omega) hy.2 hy.1 e
    rw [drop_get xs i hi2]
    refine Ev.shift 1 (f := fun k => (spec_l01In.f xs[i].f0 1 11).bind fun t => (if t = true then ((spec_l04Kids.f k xs[i].f0).bind fun t2 => (spec_ExprOk.j1 k (i : Int) (((xs[i].f3.length : Int)) != t2) xs xs[i].f0 xs[i].f1 xs[i].f2 xs[i].f3)) else (spec_ExprOk.j1 k (i : Int) true xs xs[i].f0 xs[i].f1 xs[i].f2 xs[i].f3))) (fun k => ?_) ?_
    · rw [spec_ExprOk.l0, if_pos (by omega), if_pos (by omega), rdE xs i hi2]
    · rw [l01In_is]
      simp only [Option.bind_some]
      have hgoal : (nodesB i (xs[i] :: xs.drop (i + 1)) && decide (1 ≤ (xs.length : Int) ∧ (xs.length : Int) ≤ 20)) = (if nodeB i xs[i] then nodesB (i + 1) (xs.drop (i + 1)) && decide (1 ≤ (xs.length : Int) ∧ (xs.length : Int) ≤ 20) else false) := by
        simp only [nodesB]; cases nodeB i xs[i] <;> simp
      rw [hgoal]
      by_cases hr : decide (1 ≤ xs[i].f0 ∧ xs[i].f0 ≤ 11) = true
      · refine Ev.congr (fun k => if_pos hr) (Ev.bind (specKids_ev _) ?_)
        have j := J ((xs[i].f3.length : Int) != kidsOf xs[i].f0)
        have hb : nodeB i xs[i] = (!((xs[i].f3.length : Int) != kidsOf xs[i].f0) && numOk xs[i].f0 xs[i].f1 && nameOk xs[i].f0 xs[i].f2 && kidsIn i xs[i].f3) := by
          unfold nodeB
          rw [hr, Bool.true_and]
          congr 3
          by_cases hq : (xs[i].f3.length : Int) = kidsOf xs[i].f0 <;> simp [hq]
        rw [hb]
        exact j
      · refine Ev.congr (fun k => if_neg hr) ?_
        have hb : nodeB i xs[i] = false := by unfold nodeB; rw [show decide (1 ≤ xs[i].f0 ∧ xs[i].f0 ≤ 11) = false from by simpa using hr]; simp
        rw [hb]
        exact J true
theorem specExprOk_ev (xs : List S70) (hz : smallX xs) : Ev (fun k => spec_ExprOk.f k xs) (exprOkB xs) :=
  specExpr_l0 xs hz xs.length 0 (by omega) (by omega)

/-! ### isSmall -/
theorem isSmall_is (s : ByteArray) (i : Int) : impl_isSmall.f (bt s i) = some (decide (97 ≤ bt s i ∧ bt s i ≤ 122)) := by
  unfold impl_isSmall.f
  rw [w64_bt, within_is]; rfl

/-! ### implVarName -/
theorem implVarName_l0 (s : ByteArray) (hs : s.size ≤ 140737488351232) (d : Nat) : ∀ (k i : Nat), s.size - i ≤ d → d < k →
    impl_VarName.l0 k s (s.size : Int) (i : Int) = some (((bs s).drop i).all small && decide (1 ≤ (s.size : Int) ∧ (s.size : Int) ≤ 4)) := by
  induction d with
  | zero =>
    intro k i hd hk
    obtain ⟨k, rfl⟩ : ∃ m, k = m + 1 := ⟨k - 1, by omega⟩
    simp only [impl_VarName.l0]
    rw [if_neg (by omega), within_is, bs_drop_nil s i (by omega)]; simp
  | succ d ih =>
    intro k i hd hk
    obtain ⟨k, rfl⟩ : ∃ m, k = m + 1 := ⟨k - 1, by omega⟩
    by_cases hi : i < s.size
    · have e := ih k (i + 1) (by omega) (by omega)
      simp only [impl_VarName.l0]
      rw [if_pos (by omega), if_pos (by omega), if_pos (by omega), isSmall_is, Option.bind_some, w64_succ hi hs, e, bs_drop s i hi]
      simp only [List.all_cons]
      by_cases h1 : 97 ≤ bt s i ∧ bt s i ≤ 122
      · rw [if_pos (by simpa using h1), show small (bt s i) = true from by simp [small]; omega]; simp
      · rw [if_neg (by simpa using h1), show small (bt s i) = false from by simp [small]; omega]; simp
    · simp only [impl_VarName.l0]
      rw [if_neg (by omega), within_is, bs_drop_nil s i (by omega)]; simp
theorem implVarName_is (s : ByteArray) (hs : s.size ≤ 140737488351232) (k : Nat) (hk : s.size < k) : impl_VarName.f k s = some (varNameB s) := by
  unfold impl_VarName.f
  exact implVarName_l0 s hs s.size k 0 (by omega) hk

/-! ### implExprOk -/
theorem implKidCount_is (op : Int) : impl_kidCount.f op = some (if 1 ≤ op ∧ op ≤ 11 then kidsOf op else -1) := by
  unfold impl_kidCount.f kidsOf
  rw [within_is, Option.bind_some]
  by_cases h1 : 1 ≤ op ∧ op ≤ 3
  · rw [if_pos (decide_eq_true h1), if_pos (by omega), if_pos (by omega)]
  · rw [if_neg (by simpa using h1), within_is, Option.bind_some]
    by_cases h2 : 4 ≤ op ∧ op ≤ 10
    · rw [if_pos (decide_eq_true h2), if_pos (by omega), if_neg (by omega), if_neg (by omega)]
    · rw [if_neg (by simpa using h2)]
      by_cases h3 : op = 11
      · rw [if_pos h3, if_pos (by omega), if_neg (by omega), if_pos h3]
      · rw [if_neg h3, if_neg (by omega)]
theorem implNode_j0 (op num : Int) (s : ByteArray) (hs : s.size ≤ 1048576) (ks : List Int) (b : Bool) (k : Nat) (hk : 1048577 < k) :
    impl_exNodeOk.j0 k b op num s ks = some (!b && numOk op num && nameOk op s) := by
  obtain ⟨k, rfl⟩ : ∃ m, k = m + 1 := ⟨k - 1, by omega⟩
  rw [impl_exNodeOk.j0]
  cases b with
  | true => rw [if_pos (show true = true from rfl)]; rfl
  | false =>
    rw [if_neg (by simp), implVarName_is s (by omega) k (by omega), within_is]
    simp only [Option.bind_some, Bool.not_false, Bool.true_and]
    unfold numOk nameOk
    by_cases h2 : op = 2
    · have h1 : ¬ op = 1 := by omega
      by_cases h0 : num = 0
      · by_cases he : s.toList = ([] : List UInt8)
        · simp [h2, h0, he]
        · simp [h2, h0, he]
      · by_cases he : s.toList = ([] : List UInt8)
        · simp [h2, h0, he]
        · simp [h2, h0, he]
    · by_cases h1 : op = 1
      · by_cases h0 : num = 0
        · by_cases he : s.toList = ([] : List UInt8)
          · simp [h1, h0, he]
          · simp [h1, h0, he]
        · by_cases he : s.toList = ([] : List UInt8)
          · by_cases hr : 0 ≤ num ∧ num ≤ 99
            · simp [h1, h0, he, hr]
            · simp [h1, h0, he, if_neg hr]; intro h; omega
          · by_cases hr : 0 ≤ num ∧ num ≤ 99
            · simp [h1, h0, he]
            · simp [h1, h0, he]
      · by_cases h0 : num = 0
        · by_cases he : s.toList = ([] : List UInt8)
          · simp [h1, h2, h0, he]
          · simp [h1, h2, h0, he]
        · by_cases he : s.toList = ([] : List UInt8)
          · simp [h1, h2, h0, he]
          · simp [h1, h2, h0, he]
theorem implNode_is (i : Nat) (hi : i ≤ 1048576) (y : S70) (hy : y.f2.size ≤ 1048576 ∧ y.f3.length ≤ 1048576) (k : Nat) (hk : 1048577 < k) : impl_exNodeOk.f k y.f0 y.f1 y.f2 y.f3 (i : Int) = some (nodeB i y) := by
  unfold impl_exNodeOk.f nodeB
  rw [implKidCount_is, Option.bind_some]
  by_cases hr : 1 ≤ y.f0 ∧ y.f0 ≤ 11
  · rw [if_pos hr, show decide (1 ≤ y.f0 ∧ y.f0 ≤ 11) = true from decide_eq_true hr, Bool.true_and]
    by_cases hq : (y.f3.length : Int) = kidsOf y.f0
    · rw [if_pos hq, implKidsAhead_is y.f3 hy.2 i (by omega) k (by omega), Option.bind_some, implNode_j0 _ _ _ hy.1 _ _ k hk, show decide ((y.f3.length : Int) = kidsOf y.f0) = true from decide_eq_true hq]
      congr 1
      cases kidsIn i y.f3 <;> simp
    · rw [if_neg hq, implNode_j0 _ _ _ hy.1 _ _ k hk, show decide ((y.f3.length : Int) = kidsOf y.f0) = false from decide_eq_false hq]; simp
  · rw [if_neg hr, show decide (1 ≤ y.f0 ∧ y.f0 ≤ 11) = false from decide_eq_false hr, if_neg (by omega), implNode_j0 _ _ _ hy.1 _ _ k hk]; simp
theorem implExprOk_is (xs : List S70) (hz : smallX xs) (k : Nat) (hk : xs.length + 1048578 < k) : impl_ExprOk.f k xs = some (exprOkB xs) := by
  have hl := hz.1
  have go : ∀ (d k i : Nat), xs.length - i ≤ d → d + 1048578 < k → impl_ExprOk.l0 k xs (xs.length : Int) (i : Int) xs = some (nodesB i (xs.drop i) && decide (1 ≤ (xs.length : Int) ∧ (xs.length : Int) ≤ 20)) := by
    intro d
    induction d with
    | zero =>
      intro k i hd hk
      obtain ⟨k, rfl⟩ : ∃ m, k = m + 1 := ⟨k - 1, by omega⟩
      rw [impl_ExprOk.l0, if_neg (by omega), List.drop_eq_nil_of_le (by omega), within_is]; rfl
    | succ d ih =>
      intro k i hd hk
      obtain ⟨k, rfl⟩ : ∃ m, k = m + 1 := ⟨k - 1, by omega⟩
      by_cases hi : i < xs.length
      · have hy := hz.2 _ (List.getElem_mem hi)
        rw [impl_ExprOk.l0, if_pos (by omega), if_pos (by omega), if_pos (by omega), rdE xs i hi, implNode_is i (by omega) _ hy k (by omega), Option.bind_some, w64_len hi (by omega), ih k (i + 1) (by omega) (by omega), drop_get xs i hi]
        simp only [nodesB]
        cases nodeB i xs[i] <;> simp
      · rw [impl_ExprOk.l0, if_neg (by omega), List.drop_eq_nil_of_le (by omega), within_is]; rfl
  unfold impl_ExprOk.f
  exact go xs.length k 0 (by omega) (by omega)

/-! ### exprFacts -/
theorem nodesB_at (xs : List S70) : ∀ (j : Nat), nodesB j xs = true → ∀ (i : Nat) (h : i < xs.length), nodeB (j + i) xs[i] = true := by
  induction xs with
  | nil => intro j _ i h; simp at h
  | cons y l ih =>
    intro j hn i h
    have hn2 : nodeB j y = true ∧ nodesB (j + 1) l = true := by simpa [nodesB] using hn
    cases i with
    | zero => exact hn2.1
    | succ i =>
      have := ih (j + 1) hn2.2 i (by simpa using h)
      rw [show j + (i + 1) = j + 1 + i from by omega]
      simpa using this
/-- What is known of a node of a right expression. -/
theorem node_facts {xs : List S70} (ho : exprOkB xs = true) (i : Nat) (h : i < xs.length) : (1 ≤ xs[i].f0 ∧ xs[i].f0 ≤ 11) ∧ (xs[i].f3.length : Int) = kidsOf xs[i].f0 ∧ ∀ c ∈ xs[i].f3, 0 ≤ c ∧ c < (i : Int) := by
  have h1 : nodesB 0 xs = true := by
    unfold exprOkB at ho
    rw [Bool.and_eq_true] at ho
    exact ho.1
  have h2 := nodesB_at xs 0 h1 i h
  rw [Nat.zero_add] at h2
  unfold nodeB at h2
  simp only [Bool.and_eq_true, decide_eq_true_eq] at h2
  obtain ⟨⟨⟨⟨a, b⟩, _⟩, _⟩, d⟩ := h2
  refine ⟨a, b, fun c hc => ?_⟩
  have := List.all_eq_true.1 d c hc
  have : 0 ≤ c ∧ c ≤ (i : Int) - 1 := by simpa [kidIn] using this
  omega
theorem expr_pos {xs : List S70} (ho : exprOkB xs = true) : 1 ≤ xs.length ∧ xs.length ≤ 20 := by
  unfold exprOkB at ho
  rw [Bool.and_eq_true, decide_eq_true_eq] at ho
  omega
theorem rd_in (ks : List Int) (c : Int) (h0 : 0 ≤ c) (h1 : c < ks.length) : rd ks c ∈ ks := by
  obtain ⟨n, rfl⟩ := Int.eq_ofNat_of_zero_le h0
  rw [rdInt ks n (by omega)]
  exact List.getElem_mem _

/-! ### mkB -/
def mkB (l : List UInt8) : ByteArray := ⟨l.toArray⟩
theorem data_mk (l : List UInt8) : (mkB l).data.toList = l := by simp [mkB]
theorem ba_ext {x y : ByteArray} (h : x.data.toList = y.data.toList) : x = y := by
  cases x; cases y
  simp only [ByteArray.mk.injEq]
  exact Array.toList_inj.1 h
theorem mk_data (s : ByteArray) : mkB s.data.toList = s := ba_ext (data_mk _)
theorem mk_append (a b : List UInt8) : mkB a ++ mkB b = mkB (a ++ b) := by
  refine ba_ext ?_
  rw [data_mk, ByteArray.data_append, Array.toList_append, data_mk, data_mk]
theorem mk_size (l : List UInt8) : (mkB l).size = l.length := by
  have h : (mkB l).data.toList.length = l.length := by rw [data_mk]
  exact h
theorem mk_inj {a b : List UInt8} (h : mkB a = mkB b) : a = b := by rw [← data_mk a, h, data_mk]
theorem mk_toList (l : List UInt8) : (mkB l).toList = l := by rw [ByteArray.toList_eq]; exact data_mk l

/-! ### specDecimal -/
/-! the reference's decimal numeral is the library's -/
def digs (m : Nat) : List UInt8 := if m = 0 then [] else Go.Lib.decDigits m
theorem digs_step (m : Nat) (h : m ≠ 0) : digs m = digs (m / 10) ++ [UInt8.ofNat (48 + m % 10)] := by
  unfold digs
  rw [if_neg h, Go.Lib.decDigits]
  by_cases h10 : m < 10
  · rw [dif_pos h10, if_pos (by omega), Nat.mod_eq_of_lt h10]; rfl
  · rw [dif_neg h10, if_neg (by omega)]
theorem figure_is (a : Nat) (h : a < 10) : spec_l01Figure.f (a : Int) = some ((48 + a : Nat) : Int) := by
  unfold spec_l01Figure.f
  rw [if_pos (by omega), w64 (by omega) (by omega)]
  congr 1
  omega
theorem str_cons (a : Nat) (l : List UInt8) : strOfNums [(a : Int)] ++ (⟨l.toArray⟩ : ByteArray) = ⟨(UInt8.ofNat a :: l).toArray⟩ := by
  have h : (strOfNums [(a : Int)] ++ (⟨l.toArray⟩ : ByteArray)).data.toList = (⟨(UInt8.ofNat a :: l).toArray⟩ : ByteArray).data.toList := by simp [strOfNums]
  revert h
  generalize strOfNums [(a : Int)] ++ (⟨l.toArray⟩ : ByteArray) = x
  generalize (⟨(UInt8.ofNat a :: l).toArray⟩ : ByteArray) = y
  intro h
  cases x; cases y
  simp only [ByteArray.mk.injEq]
  exact Array.toList_inj.1 h
theorem minus_cons (l : List UInt8) : (⟨#[45]⟩ : ByteArray) ++ (⟨l.toArray⟩ : ByteArray) = ⟨(45 :: l).toArray⟩ := str_cons 45 l
theorem tmod_abs (x : Int) : (Int.tmod x 10).natAbs = x.natAbs % 10 := by
  rw [Int.natAbs_tmod]; rfl
theorem tdiv_abs (x : Int) : (Int.tdiv x 10).natAbs = x.natAbs / 10 := by
  rw [Int.natAbs_tdiv]; rfl
theorem tmod_nonneg_iff (x : Int) : (0 ≤ x → 0 ≤ Int.tmod x 10) ∧ (x ≤ 0 → Int.tmod x 10 ≤ 0) := by
  refine ⟨fun h => Int.tmod_nonneg 10 h, fun h => ?_⟩
  have := Int.tmod_nonneg 10 (show 0 ≤ -x by omega)
  rw [Int.neg_tmod] at this
  omega
theorem tdiv_range (x : Int) (h0 : -9223372036854775808 ≤ x) (h1 : x ≤ 9223372036854775807) : -9223372036854775808 ≤ Int.tdiv x 10 ∧ Int.tdiv x 10 ≤ 9223372036854775807 := by
  have := tdiv_abs x
  omega
theorem specDecimal_l0 (d : Nat) : ∀ (k : Nat) (x : Int) (below : Bool) (acc : List UInt8), x.natAbs < 10 ^ d → -9223372036854775808 ≤ x → x ≤ 9223372036854775807 → acc.length + d ≤ 1000 → d < k →
    spec_Decimal.l0 k x below ⟨acc.toArray⟩ = some (if below = true then ⟨(45 :: (digs x.natAbs ++ acc)).toArray⟩ else ⟨(digs x.natAbs ++ acc).toArray⟩) := by
  have hsz : ∀ l : List UInt8, (⟨l.toArray⟩ : ByteArray).size = l.length := fun l => rfl
  have hend : ∀ (k : Nat) (below : Bool) (acc : List UInt8), acc.length ≤ 1000 → 1 ≤ k → spec_Decimal.l0 k 0 below ⟨acc.toArray⟩ = some (if below = true then ⟨(45 :: (digs 0 ++ acc)).toArray⟩ else ⟨(digs 0 ++ acc).toArray⟩) := by
    intro k below acc ha hk
    obtain ⟨k, rfl⟩ : ∃ k', k = k' + 1 := ⟨k - 1, by omega⟩
    rw [spec_Decimal.l0, if_pos rfl]
    cases below with
    | true => rw [if_pos rfl, if_pos rfl, if_pos (by rw [hsz]; omega), minus_cons]; rfl
    | false => rw [if_neg (by simp), if_neg (by simp)]; rfl
  induction d with
  | zero =>
    intro k x below acc hx h0 h1 ha hk
    have : x = 0 := by simp only [Nat.pow_zero] at hx; omega
    subst this
    exact hend k below acc (by omega) (by omega)
  | succ d ih =>
    intro k x below acc hx h0 h1 ha hk
    by_cases hz : x = 0
    · subst hz; exact hend k below acc (by omega) (by omega)
    · obtain ⟨k, rfl⟩ : ∃ k', k = k' + 1 := ⟨k - 1, by omega⟩
      have hm := tmod_abs x
      have hq := tdiv_abs x
      obtain ⟨q0, q1⟩ := tdiv_range x h0 h1
      have hne : x.natAbs ≠ 0 := by omega
      have hlt : x.natAbs % 10 < 10 := Nat.mod_lt _ (by omega)
      have hrec := ih k (Int.tdiv x 10) below (UInt8.ofNat (48 + x.natAbs % 10) :: acc) (by rw [hq]; rw [Nat.pow_succ] at hx; omega) q0 q1 (by simp only [List.length_cons]; omega) (by omega)
      have hfin : spec_Decimal.l0 k (Int.tdiv x 10) below (strOfNums [((48 + x.natAbs % 10 : Nat) : Int)] ++ ⟨acc.toArray⟩) = some (if below = true then ⟨(45 :: (digs x.natAbs ++ acc)).toArray⟩ else ⟨(digs x.natAbs ++ acc).toArray⟩) := by
        rw [str_cons, hrec, hq, digs_step _ hne]
        simp only [List.append_assoc, List.cons_append, List.nil_append]
      have h1' : (strOfNums [((48 + x.natAbs % 10 : Nat) : Int)]).size = 1 := str_size _
      rw [spec_Decimal.l0, if_neg hz, w64 q0 q1]
      by_cases hneg : Int.tmod x 10 < 0
      · have e : wrap64 (-(Int.tmod x 10)) = ((x.natAbs % 10 : Nat) : Int) := by rw [w64 (by omega) (by omega)]; omega
        rw [if_pos hneg, e, figure_is _ hlt, Option.bind_some, Option.bind_some, if_pos (by rw [h1', hsz]; omega)]
        exact hfin
      · have e : Int.tmod x 10 = ((x.natAbs % 10 : Nat) : Int) := by omega
        rw [if_neg hneg, e, figure_is _ hlt, Option.bind_some, Option.bind_some, if_pos (by rw [h1', hsz]; omega)]
        exact hfin
theorem specDecimal_is (n : Int) (h0 : -9223372036854775808 ≤ n) (h1 : n ≤ 9223372036854775807) (k : Nat) (hk : 30 ≤ k) : spec_Decimal.f k n = some ⟨(Go.Lib.itoa n).toArray⟩ := by
  unfold spec_Decimal.f Go.Lib.itoa
  by_cases hz : n = 0
  · subst hz
    rw [if_pos rfl, if_neg (by omega)]
    have : Go.Lib.decDigits (Int.toNat 0) = [48] := Go.Lib.decDigits_one (by decide)
    rw [this]
  · have h := specDecimal_l0 20 k n (decide (n < 0)) [] (by have : (10 : Nat) ^ 20 = 100000000000000000000 := by decide
                                                            omega) h0 h1 (by simp) (by omega)
    rw [if_neg hz]
    refine h.trans ?_
    rw [List.append_nil]
    have hd : digs n.natAbs = Go.Lib.decDigits n.natAbs := by unfold digs; rw [if_neg (by omega)]
    rw [hd]
    by_cases hn : n < 0
    · rw [if_pos (by simpa using hn), if_pos hn]
    · rw [if_neg (by simpa using hn), if_neg hn, show n.natAbs = n.toNat by omega]

/-! ### implDecimal -/
theorem implDecimal_is (n : Int) (h0 : -9223372036854775808 ≤ n) (h1 : n ≤ 9223372036854775807) : impl_Decimal.f n = some ⟨(Go.Lib.itoa n).toArray⟩ := by
  unfold impl_Decimal.f strconv_Itoa.f
  rw [if_pos h0, if_pos h1, Option.bind_some]

/-! ### showR -/
/-! what is shown of an expression: plain -/
def nodeAt (xs : List S70) (i : Int) : S70 := rd_T70 xs i
def signOf (op : Int) : List UInt8 := (([43, 45, 42, 47, 60, 61, 38] : List UInt8).drop (op - 4).toNat).take 1
def showT (xs : List S70) : Nat → Int → List UInt8
  | 0, _ => []
  | f + 1, i => if (nodeAt xs i).f0 = 1 then Go.Lib.itoa (nodeAt xs i).f1 else if (nodeAt xs i).f0 = 2 then (nodeAt xs i).f2.data.toList else if (nodeAt xs i).f0 = 3 then [64] else if (nodeAt xs i).f0 = 11 then 33 :: showT xs f (rd (nodeAt xs i).f3 0)
    else 40 :: showT xs f (rd (nodeAt xs i).f3 0) ++ 32 :: signOf (nodeAt xs i).f0 ++ 32 :: showT xs f (rd (nodeAt xs i).f3 1) ++ [41]
theorem sign_len (op : Int) : (signOf op).length ≤ 1 := by unfold signOf; rw [List.length_take]; omega
theorem sign_spec (op : Int) (h0 : 4 ≤ op) (h1 : op ≤ 10) : rdOf ByteArray.empty ([(⟨#[43]⟩ : ByteArray), (⟨#[45]⟩ : ByteArray), (⟨#[42]⟩ : ByteArray), (⟨#[47]⟩ : ByteArray), (⟨#[60]⟩ : ByteArray), (⟨#[61]⟩ : ByteArray), (⟨#[38]⟩ : ByteArray)] : List ByteArray) (op - 4) = mkB (signOf op) := by
  have : op = 4 ∨ op = 5 ∨ op = 6 ∨ op = 7 ∨ op = 8 ∨ op = 9 ∨ op = 10 := by omega
  rcases this with rfl | rfl | rfl | rfl | rfl | rfl | rfl <;> rfl
theorem sign_impl (op : Int) (h0 : 4 ≤ op) (h1 : op ≤ 10) : (⟨#[43, 45, 42, 47, 60, 61, 38]⟩ : ByteArray).extract (op - 4).toNat (op - 4 + 1).toNat = mkB (signOf op) := by
  have : op = 4 ∨ op = 5 ∨ op = 6 ∨ op = 7 ∨ op = 8 ∨ op = 9 ∨ op = 10 := by omega
  rcases this with rfl | rfl | rfl | rfl | rfl | rfl | rfl <;> (refine ba_ext ?_; decide)
/-- What is known of a node of a right expression. -/
theorem node_more {xs : List S70} (ho : exprOkB xs = true) (i : Nat) (h : i < xs.length) : (1 ≤ xs[i].f0 ∧ xs[i].f0 ≤ 11) ∧ (xs[i].f3.length : Int) = kidsOf xs[i].f0 ∧ (∀ c ∈ xs[i].f3, 0 ≤ c ∧ c < (i : Int)) ∧ -9223372036854775808 ≤ xs[i].f1 ∧ xs[i].f1 ≤ 9223372036854775807 ∧ xs[i].f2.data.toList.length ≤ 4 := by
  have ho' := ho
  unfold exprOkB at ho'
  rw [Bool.and_eq_true] at ho'
  have hn := nodesB_at xs 0 ho'.1 i h
  rw [Nat.zero_add] at hn
  unfold nodeB at hn
  simp only [Bool.and_eq_true] at hn
  obtain ⟨⟨⟨⟨n1, n2⟩, n3⟩, n4⟩, n5⟩ := hn
  have n1 := of_decide_eq_true n1
  have n2 := of_decide_eq_true n2
  refine ⟨n1, n2, ?_, ?_⟩
  · intro c hc
    unfold kidsIn at n5
    have := List.all_eq_true.1 n5 c hc
    unfold kidIn at this
    have := of_decide_eq_true this
    omega
  · have hnum : 0 ≤ xs[i].f1 ∧ xs[i].f1 ≤ 99 := by
      unfold numOk at n3
      split at n3
      · exact of_decide_eq_true n3
      · have := of_decide_eq_true n3; omega
    refine ⟨by omega, by omega, ?_⟩
    unfold nameOk at n4
    split at n4
    · unfold varNameB at n4
      rw [Bool.and_eq_true] at n4
      have := of_decide_eq_true n4.2
      have e : xs[i].f2.size = xs[i].f2.data.toList.length := rfl
      omega
    · have := of_decide_eq_true n4
      rw [ByteArray.toList_eq] at this
      have e : xs[i].f2.data.toList = [] := this
      rw [e]; simp

/-! ### showBoth -/
theorem nodeAt_is (xs : List S70) (i : Nat) (h : i < xs.length) : nodeAt xs (i : Int) = xs[i] := rdE xs i h
theorem kid_nat {xs : List S70} (ho : exprOkB xs = true) (i : Nat) (h : i < xs.length) (j : Nat) (hj : j < xs[i].f3.length) : ∃ c : Nat, rd xs[i].f3 (j : Int) = (c : Int) ∧ c < i := by
  have hm : rd xs[i].f3 (j : Int) ∈ xs[i].f3 := by
    unfold rd
    rw [Int.toNat_natCast, List.getD_eq_getElem?_getD, List.getElem?_eq_getElem hj, Option.getD_some]
    exact List.getElem_mem _
  have := (node_more ho i h).2.2.1 _ hm
  exact ⟨(rd xs[i].f3 (j : Int)).toNat, by omega, by omega⟩
theorem show_both {xs : List S70} (ho : exprOkB xs = true) (f : Nat) : ∀ (i k : Nat), i < f → i < xs.length → f ≤ 20 → f + 40 ≤ k →
    spec_l04Show.f k xs (i : Int) = some (mkB (showT xs f (i : Int))) ∧ impl_showNode.f k xs (i : Int) = some (mkB (showT xs f (i : Int))) ∧ (showT xs f (i : Int)).length ≤ 30 * 3 ^ f := by
  induction f with
  | zero => intro i k h; omega
  | succ f ih =>
    intro i k hi hl hf hk
    obtain ⟨k, rfl⟩ : ∃ k', k = k' + 1 := ⟨k - 1, by omega⟩
    obtain ⟨m1, m2, m3, m4, m5, m6⟩ := node_more ho i hl
    have hp : 3 ^ f ≤ 3 ^ 20 := Nat.pow_le_pow_right (by omega) (by omega)
    have hp1 : 1 ≤ 3 ^ f := Nat.one_le_pow _ _ (by omega)
    have hps : 3 ^ (f + 1) = 3 ^ f * 3 := Nat.pow_succ _ _
    have hp20 : 3 ^ 20 = 3486784401 := by decide
    have hr : rd_T70 xs (i : Int) = xs[i] := rdE xs i hl
    have hlt : (i : Int) < (xs.length : Int) := by omega
    have hd : ∀ n : Int, (⟨(Go.Lib.itoa n).toArray⟩ : ByteArray) = mkB (Go.Lib.itoa n) := fun _ => rfl
    have hn2 : xs[i].f2 = mkB xs[i].f2.data.toList := (mk_data _).symm
    rw [spec_l04Show.f, impl_showNode.f, if_pos (Int.natCast_nonneg i), if_pos hlt, if_pos (Int.natCast_nonneg i), if_pos hlt, showT, nodeAt_is xs i hl, hr]
    by_cases o1 : xs[i].f0 = 1
    · have hlen := Go.Lib.itoa_length_le xs[i].f1 m4 m5
      rw [if_pos o1, if_pos o1, if_pos o1, specDecimal_is _ m4 m5 k (by omega), implDecimal_is _ m4 m5, Option.bind_some, hd]
      exact ⟨rfl, rfl, by omega⟩
    · rw [if_neg o1, if_neg o1, if_neg o1]
      by_cases o2 : xs[i].f0 = 2
      · rw [if_pos o2, if_pos o2, if_pos o2]
        exact ⟨by rw [← hn2], by rw [← hn2], by omega⟩
      · rw [if_neg o2, if_neg o2, if_neg o2]
        by_cases o3 : xs[i].f0 = 3
        · rw [if_pos o3, if_pos o3, if_pos o3]
          exact ⟨rfl, rfl, by simp only [List.length_cons, List.length_nil]; omega⟩
        · rw [if_neg o3, if_neg o3, if_neg o3]
          by_cases o11 : xs[i].f0 = 11
          · have hk1 : xs[i].f3.length = 1 := by
              unfold kidsOf at m2
              rw [if_neg (by omega), if_pos o11] at m2
              omega
            obtain ⟨c, hc, hci⟩ := kid_nat ho i hl 0 (by omega)
            rw [show ((0 : Nat) : Int) = 0 from rfl] at hc
            obtain ⟨a1, a2, a3⟩ := ih c k (by omega) (by omega) (by omega) (by omega)
            rw [if_pos o11, if_pos o11, if_pos o11, if_pos (by omega), if_pos (by omega), hc, a1, a2, Option.bind_some]
            simp only [mk_size, Option.bind_some]
            rw [if_pos (by omega)]
            exact ⟨congrArg some (mk_append [33] _), congrArg some (mk_append [33] _), by simp only [List.length_cons]; omega⟩
          · have hk2 : xs[i].f3.length = 2 := by
              unfold kidsOf at m2
              rw [if_neg (by omega), if_neg o11] at m2
              omega
            obtain ⟨c, hc, hci⟩ := kid_nat ho i hl 0 (by omega)
            obtain ⟨e, he, hei⟩ := kid_nat ho i hl 1 (by omega)
            rw [show ((0 : Nat) : Int) = 0 from rfl] at hc
            rw [show ((1 : Nat) : Int) = 1 from rfl] at he
            obtain ⟨a1, a2, a3⟩ := ih c k (by omega) (by omega) (by omega) (by omega)
            obtain ⟨b1, b2, b3⟩ := ih e k (by omega) (by omega) (by omega) (by omega)
            have hs := sign_len xs[i].f0
            have w4 : wrap64 (xs[i].f0 - 4) = xs[i].f0 - 4 := w64 (by omega) (by omega)
            have w5 : wrap64 (xs[i].f0 - 4 + 1) = xs[i].f0 - 4 + 1 := w64 (by omega) (by omega)
            have ss := sign_spec xs[i].f0 (by omega) (by omega)
            have si := sign_impl xs[i].f0 (by omega) (by omega)
            have c40 : (⟨#[40]⟩ : ByteArray) = mkB [40] := rfl
            have c32 : (⟨#[32]⟩ : ByteArray) = mkB [32] := rfl
            have c41 : (⟨#[41]⟩ : ByteArray) = mkB [41] := rfl
            rw [if_neg o11, if_neg o11, if_neg o11, Option.bind_some, w4, w5]
            clear w4 w5
            have hlen : (40 :: showT xs f (c : Int) ++ 32 :: signOf xs[i].f0 ++ 32 :: showT xs f (e : Int) ++ [41]).length ≤ 30 * 3 ^ (f + 1) := by
              simp only [List.length_append, List.length_cons, List.length_nil]; omega
            have hfin : mkB (((((([40] ++ showT xs f (c : Int)) ++ [32]) ++ signOf xs[i].f0) ++ [32]) ++ showT xs f (e : Int)) ++ [41]) = mkB (40 :: showT xs f (c : Int) ++ 32 :: signOf xs[i].f0 ++ 32 :: showT xs f (e : Int) ++ [41]) := by
              congr 1
              simp only [List.append_assoc, List.cons_append, List.nil_append]
            refine ⟨?_, ?_, by rw [hc, he]; exact hlen⟩
            · rw [if_pos (by omega), hc, a1, Option.bind_some, c40, c32, c41, ss]
              simp only [mk_append, mk_size]
              rw [if_pos (by omega), if_pos (by first | omega | (simp only [List.length_append, List.length_cons, List.length_nil]; omega)), if_pos (by omega), if_pos (by simp only [List.length_cons, List.length_nil]; omega), if_pos (by first | omega | (simp only [List.length_append, List.length_cons, List.length_nil]; omega)), if_pos (by first | omega | (simp only [List.length_append, List.length_cons, List.length_nil]; omega)), if_pos (by omega), he, b1, Option.bind_some]
              simp only [mk_append, mk_size]
              rw [if_pos (by first | omega | (simp only [List.length_append, List.length_cons, List.length_nil]; omega)), if_pos (by first | omega | (simp only [List.length_append, List.length_cons, List.length_nil]; omega)), hfin]
            · rw [if_pos (by omega), if_pos (by omega), if_pos (by omega), if_pos (by omega), hc, a2, Option.bind_some, c40, c32, c41, si]
              simp only [mk_append, mk_size]
              rw [if_pos (by omega), if_pos (by first | omega | (simp only [List.length_append, List.length_cons, List.length_nil]; omega)), if_pos (by first | omega | (simp only [List.length_append, List.length_cons, List.length_nil]; omega)), if_pos (by first | omega | (simp only [List.length_append, List.length_cons, List.length_nil]; omega)), if_pos (by omega), he, b2, Option.bind_some]
              simp only [mk_append, mk_size]
              rw [if_pos (by first | omega | (simp only [List.length_append, List.length_cons, List.length_nil]; omega)), if_pos (by first | omega | (simp only [List.length_append, List.length_cons, List.length_nil]; omega)), hfin]

/-! ### showSize -/
def ksum (acc : List Int) (ks : List Int) (n : Int) : Int := ks.foldl (fun n c => n + rd acc c) n
def capS (n : Int) : Int := if n > 201 then 201 else n
def nextSz (acc : List Int) (y : S70) : List Int := acc ++ [capS (ksum acc y.f3 1)]
def sizesL (xs : List S70) : List Int := xs.foldl nextSz []
theorem sizesL_snoc (xs : List S70) (i : Nat) (h : i < xs.length) : sizesL (xs.take (i + 1)) = sizesL (xs.take i) ++ [capS (ksum (sizesL (xs.take i)) xs[i].f3 1)] := by
  unfold sizesL
  rw [List.take_add_one, List.getElem?_eq_getElem h, List.foldl_append]
  rfl
theorem sizesL_len (xs : List S70) : ∀ i : Nat, i ≤ xs.length → (sizesL (xs.take i)).length = i := by
  intro i
  induction i with
  | zero => intro _; rfl
  | succ i ih =>
    intro h
    rw [sizesL_snoc xs i (by omega), List.length_append, ih (by omega)]
    rfl
theorem ksum_range (acc : List Int) (ha : ∀ c : Int, 0 ≤ rd acc c ∧ rd acc c ≤ 201) : ∀ (ks : List Int) (n : Int), n ≤ ksum acc ks n ∧ ksum acc ks n ≤ n + 201 * (ks.length : Int)
  | [], n => by simp [ksum]
  | c :: ks, n => by
    have := ksum_range acc ha ks (n + rd acc c)
    have hc := ha c
    unfold ksum at this ⊢
    rw [List.foldl_cons]
    simp only [List.length_cons]
    omega
theorem sizesL_range (xs : List S70) : ∀ i : Nat, i ≤ xs.length → ∀ c : Int, 0 ≤ rd (sizesL (xs.take i)) c ∧ rd (sizesL (xs.take i)) c ≤ 201 := by
  intro i
  induction i with
  | zero =>
    intro _ c
    unfold rd sizesL
    simp
  | succ i ih =>
    intro h c
    have hi := ih (by omega)
    have hk := ksum_range _ hi xs[i].f3 1
    rw [sizesL_snoc xs i (by omega)]
    have hcap : 0 ≤ capS (ksum (sizesL (xs.take i)) xs[i].f3 1) ∧ capS (ksum (sizesL (xs.take i)) xs[i].f3 1) ≤ 201 := by
      unfold capS
      split <;> omega
    unfold rd at hi ⊢
    rw [List.getD_eq_getElem?_getD]
    by_cases hc : c.toNat < (sizesL (xs.take i)).length
    · rw [List.getElem?_append_left hc, ← List.getD_eq_getElem?_getD]
      exact hi c
    · rw [List.getElem?_append_right (by omega)]
      generalize c.toNat - (sizesL (xs.take i)).length = m
      cases m with
      | zero => simpa using hcap
      | succ m => simp
theorem wS (i : Nat) (h : i ≤ 1048577) : wrap64 ((i : Int) + 1) = ((i + 1 : Nat) : Int) := by rw [w64 (by omega) (by omega)]; omega
theorem specSize_l1 (xs : List S70) (ho : exprOkB xs = true) (i : Nat) (hi : i < xs.length) (acc : List Int) (hal : acc.length = i) (ha : ∀ c : Int, 0 ≤ rd acc c ∧ rd acc c ≤ 201) (d : Nat) : ∀ (k j : Nat) (n : Int), xs[i].f3.length - j = d → j ≤ xs[i].f3.length → 0 ≤ n → n ≤ 1 + 201 * (j : Int) →
    spec_l04Size.l1 (k + d + 1) acc (i : Int) n (j : Int) xs = spec_l04Size.l0 k (acc ++ [capS (ksum acc (xs[i].f3.drop j) n)]) ((i + 1 : Nat) : Int) xs := by
  have hx := expr_pos ho
  obtain ⟨m1, m2, m3, _⟩ := node_more ho i hi
  have hk2 : xs[i].f3.length ≤ 2 := by unfold kidsOf at m2; split at m2 <;> (try split at m2) <;> omega
  have hr : rd_T70 xs (i : Int) = xs[i] := rdE xs i hi
  induction d with
  | zero =>
    intro k j n hd hj h0 h1
    have hpush : ∀ v : Int, (if acc.length < 17592186044416 then (spec_l04Size.l0 k (acc ++ [v]) ((i + 1 : Nat) : Int) xs) else (none)) = spec_l04Size.l0 k (acc ++ [v]) ((i + 1 : Nat) : Int) xs := fun v => if_pos (by omega)
    rw [List.drop_eq_nil_of_le (by omega), spec_l04Size.l1, if_pos (by omega), if_pos (by omega), hr, if_neg (by omega), wS i (by omega), hpush, hpush]
    unfold capS ksum
    rw [List.foldl_nil]
    by_cases c : n > 201
    · rw [if_pos c, if_pos c]
    · rw [if_neg c, if_neg c]
  | succ d ih =>
    intro k j n hd hj h0 h1
    have hj2 : j < xs[i].f3.length := by omega
    obtain ⟨c, hc, hci⟩ := kid_nat ho i hi j hj2
    have hac := ha (c : Int)
    have hrec := ih k (j + 1) (n + rd acc (c : Int)) (by omega) (by omega) (by omega) (by omega)
    have hdj : xs[i].f3.drop j = (c : Int) :: xs[i].f3.drop (j + 1) := by
      rw [List.drop_eq_getElem_cons hj2, ← hc]
      congr 1
      exact (rdInt _ _ hj2).symm
    rw [hdj, show k + (d + 1) + 1 = (k + d + 1) + 1 from by omega, spec_l04Size.l1, if_pos (by omega), if_pos (by omega), hr, if_pos (by omega), if_pos (by omega), hc, if_pos (by omega), if_pos (by omega), wS j (by omega), w64 (n := n + rd acc (c : Int)) (by omega) (by omega)]
    rw [hrec]
    rfl
theorem specSize_l0 (xs : List S70) (ho : exprOkB xs = true) (d : Nat) : ∀ (k i : Nat), xs.length - i = d → i ≤ xs.length → 4 * d + 1 ≤ k → spec_l04Size.l0 k (sizesL (xs.take i)) (i : Int) xs = some (rd (sizesL xs) ((xs.length - 1 : Nat) : Int)) := by
  have hx := expr_pos ho
  induction d with
  | zero =>
    intro k i hd hi hk
    obtain ⟨k, rfl⟩ : ∃ k', k = k' + 1 := ⟨k - 1, by omega⟩
    have hl := sizesL_len xs xs.length (Nat.le_refl _)
    rw [List.take_of_length_le (show xs.length ≤ i by omega)]
    rw [List.take_length] at hl
    have w : wrap64 (((sizesL xs).length : Int) - 1) = ((xs.length - 1 : Nat) : Int) := by rw [hl, w64 (by omega) (by omega)]; omega
    rw [spec_l04Size.l0, if_neg (by omega), w, if_pos (by omega), if_pos (by omega)]
  | succ d ih =>
    intro k i hd hi hk
    have hlt : i < xs.length := by omega
    obtain ⟨m1, m2, m3, _⟩ := node_more ho i hlt
    have hk2 : xs[i].f3.length ≤ 2 := by unfold kidsOf at m2; split at m2 <;> (try split at m2) <;> omega
    obtain ⟨k, rfl⟩ : ∃ k', k = (k' + xs[i].f3.length + 1) + 1 := ⟨k - 2 - xs[i].f3.length, by omega⟩
    have h1 := specSize_l1 xs ho i hlt (sizesL (xs.take i)) (sizesL_len xs i (by omega)) (sizesL_range xs i (by omega)) xs[i].f3.length k 0 1 (by omega) (by omega) (by omega) (by omega)
    rw [show ((0 : Nat) : Int) = 0 from rfl, List.drop_zero] at h1
    rw [spec_l04Size.l0, if_pos (by omega), h1, ← sizesL_snoc xs i hlt]
    exact ih k (i + 1) (by omega) (by omega) (by omega)
theorem specSize_is (xs : List S70) (ho : exprOkB xs = true) (k : Nat) (hk : 100 ≤ k) : spec_l04Size.f k xs = some (rd (sizesL xs) ((xs.length - 1 : Nat) : Int)) := by
  have hx := expr_pos ho
  exact specSize_l0 xs ho xs.length k 0 (by omega) (by omega) (by omega)
theorem implShow_l1 (xs : List S70) (ho : exprOkB xs = true) (i : Nat) (hi : i < xs.length) (acc : List Int) (hal : acc.length = i) (ha : ∀ c : Int, 0 ≤ rd acc c ∧ rd acc c ≤ 201) (d : Nat) : ∀ (k j : Nat) (n : Int), xs[i].f3.length - j = d → j ≤ xs[i].f3.length → 0 ≤ n → n ≤ 1 + 201 * (j : Int) →
    impl_ShowExpr.l1 (k + d + 1) acc n xs (xs.length : Int) (i : Int) xs[i].f3 (xs[i].f3.length : Int) (j : Int) xs = impl_ShowExpr.l0 k (acc ++ [capS (ksum acc (xs[i].f3.drop j) n)]) xs (xs.length : Int) ((i + 1 : Nat) : Int) xs := by
  have hx := expr_pos ho
  obtain ⟨m1, m2, m3, _⟩ := node_more ho i hi
  have hk2 : xs[i].f3.length ≤ 2 := by unfold kidsOf at m2; split at m2 <;> (try split at m2) <;> omega
  induction d with
  | zero =>
    intro k j n hd hj h0 h1
    rw [List.drop_eq_nil_of_le (by omega), impl_ShowExpr.l1, if_neg (by omega), if_pos (by omega), wS i (by omega)]
    have e : mn n 201 = capS (ksum acc [] n) := by
      unfold capS ksum mn
      rfl
    rw [e]
  | succ d ih =>
    intro k j n hd hj h0 h1
    have hj2 : j < xs[i].f3.length := by omega
    obtain ⟨c, hc, hci⟩ := kid_nat ho i hi j hj2
    have hac := ha (c : Int)
    have hrec := ih k (j + 1) (n + rd acc (c : Int)) (by omega) (by omega) (by omega) (by omega)
    have hdj : xs[i].f3.drop j = (c : Int) :: xs[i].f3.drop (j + 1) := by
      rw [List.drop_eq_getElem_cons hj2, ← hc]
      congr 1
      exact (rdInt _ _ hj2).symm
    rw [hdj, show k + (d + 1) + 1 = (k + d + 1) + 1 from by omega, impl_ShowExpr.l1, if_pos (by omega), if_pos (by omega), if_pos (by omega), hc, if_pos (by omega), if_pos (by omega), wS j (by omega), w64 (n := n + rd acc (c : Int)) (by omega) (by omega)]
    rw [hrec]
    rfl
theorem implShow_l0 (xs : List S70) (ho : exprOkB xs = true) (d : Nat) : ∀ (k i : Nat), xs.length - i = d → i ≤ xs.length → 4 * d + 100 ≤ k → impl_ShowExpr.l0 k (sizesL (xs.take i)) xs (xs.length : Int) (i : Int) xs = some (if rd (sizesL xs) ((xs.length - 1 : Nat) : Int) > 200 then ⟨#[]⟩ else mkB (showT xs 20 ((xs.length - 1 : Nat) : Int))) := by
  have hx := expr_pos ho
  induction d with
  | zero =>
    intro k i hd hi hk
    obtain ⟨k, rfl⟩ : ∃ k', k = k' + 1 := ⟨k - 1, by omega⟩
    have hl := sizesL_len xs xs.length (Nat.le_refl _)
    rw [List.take_of_length_le (show xs.length ≤ i by omega)]
    rw [List.take_length] at hl
    have w : wrap64 (((sizesL xs).length : Int) - 1) = ((xs.length - 1 : Nat) : Int) := by rw [hl, w64 (by omega) (by omega)]; omega
    have w2 : wrap64 ((xs.length : Int) - 1) = ((xs.length - 1 : Nat) : Int) := by rw [w64 (by omega) (by omega)]; omega
    rw [impl_ShowExpr.l0, if_neg (by omega), w, w2, if_pos (by omega), if_pos (by omega), (show_both ho 20 (xs.length - 1) k (by omega) (by omega) (by omega) (by omega)).2.1]
    split <;> rfl
  | succ d ih =>
    intro k i hd hi hk
    have hlt : i < xs.length := by omega
    obtain ⟨m1, m2, m3, _⟩ := node_more ho i hlt
    have hk2 : xs[i].f3.length ≤ 2 := by unfold kidsOf at m2; split at m2 <;> (try split at m2) <;> omega
    obtain ⟨k, rfl⟩ : ∃ k', k = (k' + xs[i].f3.length + 1) + 1 := ⟨k - 2 - xs[i].f3.length, by omega⟩
    have h1 := implShow_l1 xs ho i hlt (sizesL (xs.take i)) (sizesL_len xs i (by omega)) (sizesL_range xs i (by omega)) xs[i].f3.length k 0 1 (by omega) (by omega) (by omega) (by omega)
    rw [show ((0 : Nat) : Int) = 0 from rfl, List.drop_zero] at h1
    have hr : rd_T70 xs (i : Int) = xs[i] := rdE xs i hlt
    rw [impl_ShowExpr.l0, if_pos (by omega), if_pos (by omega), if_pos (by omega), hr, h1, ← sizesL_snoc xs i hlt]
    exact ih k (i + 1) (by omega) (by omega) (by omega)
def showX (xs : List S70) : ByteArray := if exprOkB xs = true then (if rd (sizesL xs) ((xs.length - 1 : Nat) : Int) > 200 then ⟨#[]⟩ else mkB (showT xs 20 ((xs.length - 1 : Nat) : Int))) else ⟨#[]⟩

/-! ### FnExactShowExpr -/
theorem specShow_ev (xs : List S70) (hz : smallX xs) : Ev (fun k => spec_ShowExpr.f k xs) (showX xs) := by
  unfold spec_ShowExpr.f
  refine Ev.bind (specExprOk_ev xs hz) ?_
  unfold showX
  by_cases ho : exprOkB xs = true
  · have hx := expr_pos ho
    rw [if_pos ho]
    refine Ev.congr (fun k => if_pos ho) ?_
    refine Ev.bind (Ev.from 100 fun k hk => specSize_is xs ho k (by omega)) ?_
    by_cases c : rd (sizesL xs) ((xs.length - 1 : Nat) : Int) > 200
    · rw [if_pos c]
      exact Ev.congr (f := fun _ => some ⟨#[]⟩) (fun k => if_pos c) (Ev.now _)
    · rw [if_neg c]
      refine Ev.congr (fun k => if_neg c) ?_
      have w2 : wrap64 ((xs.length : Int) - 1) = ((xs.length - 1 : Nat) : Int) := by rw [w64 (by omega) (by omega)]; omega
      rw [w2]
      exact Ev.bind (Ev.from 100 fun k hk => (show_both ho 20 (xs.length - 1) k (by omega) (by omega) (by omega) (by omega)).1) (Ev.now _)
  · rw [if_neg ho]
    exact Ev.congr (f := fun _ => some ⟨#[]⟩) (fun k => if_neg ho) (Ev.now _)
theorem implShow_ev (xs : List S70) (hz : smallX xs) : Ev (fun k => impl_ShowExpr.f k xs) (showX xs) := by
  unfold impl_ShowExpr.f
  refine Ev.bind (Ev.from (xs.length + 1048578) (implExprOk_is _ hz)) ?_
  unfold showX
  by_cases ho : exprOkB xs = true
  · have hx := expr_pos ho
    rw [if_pos ho]
    refine Ev.congr (fun k => if_pos ho) ?_
    exact Ev.from 1000 fun k hk => implShow_l0 xs ho xs.length k 0 (by omega) (by omega) (by omega)
  · rw [if_neg ho]
    exact Ev.congr (f := fun _ => some ⟨#[]⟩) (fun k => if_neg ho) (Ev.now _)
theorem FnExactShowExpr : laws_FnExactShowExpr.Pure := by
  intro xs hx hl
  have hl : xs.length ≤ 9223372036854775807 := by unfold maxLen at hl; exact hl
  refine Ev.rounds (r := true) ?_
  unfold laws_FnExactShowExpr.f
  obtain ⟨r, e, hz⟩ := szExpr_ev xs hx hl 1048576 (by omega) (by omega)
  refine Ev.bind e ?_
  by_cases h0 : r < 0
  · exact Ev.congr (f := fun _ => some true) (fun k => if_pos h0) (Ev.now _)
  · have hz := (hz (by omega)).2
    have hi : smallX (xs.map toEN) := smallEI_of hz
    have et : Ev (fun k => laws_toExpr.f k xs) (xs.map toEN) := Ev.from (1048577 + xs.length) (toExpr_is xs hz)
    refine Ev.congr (fun k => if_neg h0) (Ev.bind et (Ev.bind (specShow_ev _ hi) (Ev.bind et (Ev.bind (implShow_ev _ hi) ?_))))
    refine Ev.congr (fun k => if_pos rfl) (Ev.bind et (Ev.bind (Ev.from (1048577 + (xs.map toEN).length) (eqExpr_self _ hi)) ?_))
    exact Ev.congr (f := fun _ => some true) (fun k => if_pos rfl) (Ev.now _)

end Go.Proofs.YtnmhggdaccbbfaaDoor.Pure
