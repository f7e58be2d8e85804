/- FnExactRuleAt without Go: at every grammar and name the program's RuleAt and the reference's answer the same place. -/
import Derived.Test.YtnmhggdaccbbfaaMFnExactRuleAtok
set_option linter.unusedVariables false
set_option linter.unusedSimpArgs false
set_option maxHeartbeats 400000
namespace Go.Proofs.Ytnmhggdaccbbfaa.Pure
open Go.RowKit Go.Proofs.Ytnmhggdaccbbfaa.MFnExactRuleAt Go.Proofs.YtnmhggdaccbbfaaW.PrintWords Go.Proofs.YtnmhggdaccbbfaaW.PrintLast
/-! ### base -/
theorem w64 {n : Int} (h : -9223372036854775808 ≤ n) (h' : n ≤ 9223372036854775807) : wrap64 n = n := by unfold wrap64; omega
theorem w64_succ {i m : Nat} (h : i < m) (hm : m ≤ 140737488351232) : wrap64 ((i : Int) + 1) = ((i + 1 : Nat) : Int) := by
  rw [w64 (by omega) (by omega)]; omega
theorem w64_bt (s : ByteArray) (i : Int) : wrap64 (bt s i) = bt s i := by
  have := bt_range s i
  exact w64 (by omega) (by omega)
/-- A string's bytes as numbers. -/
def bs (s : ByteArray) : List Int := s.data.toList.map fun b => (b.toNat : Int)
theorem bs_length (s : ByteArray) : (bs s).length = s.size := by simp [bs]
theorem bs_get (s : ByteArray) (i : Nat) (h : i < s.size) : (bs s)[i]? = some (bt s i) := by
  have h2 : i < s.data.toList.length := by simpa using h
  simp only [bs, List.getElem?_map, List.getElem?_eq_getElem h2, Option.map_some]
  unfold bt
  rw [dif_pos (by simpa using h)]
  rfl
theorem bs_drop (s : ByteArray) (i : Nat) (h : i < s.size) : (bs s).drop i = bt s i :: (bs s).drop (i + 1) := by
  have h2 : i < (bs s).length := by rw [bs_length]; exact h
  rw [List.drop_eq_getElem_cons h2]
  congr 1
  have := bs_get s i h
  rw [List.getElem?_eq_getElem h2] at this
  exact Option.some.inj this
theorem bs_drop_nil (s : ByteArray) (i : Nat) (h : s.size ≤ i) : (bs s).drop i = [] := List.drop_eq_nil_of_le (by rw [bs_length]; exact h)
theorem bs_range {s : ByteArray} {c : Int} (h : c ∈ bs s) : 0 ≤ c ∧ c ≤ 255 := by
  simp only [bs, List.mem_map] at h
  obtain ⟨b, _, rfl⟩ := h
  have := b.toNat_lt
  omega
theorem bs_inj {s t : ByteArray} (h : bs s = bs t) : s = t := by
  have hd : s.data.toList = t.data.toList := by
    refine List.map_inj_right (f := fun b : UInt8 => (b.toNat : Int)) (fun a b hab => ?_) |>.1 h
    have hab2 : (a.toNat : Int) = b.toNat := hab
    exact UInt8.toNat_inj.1 (by omega)
  cases s; cases t
  simp only [ByteArray.mk.injEq]
  exact Array.toList_inj.1 hd
theorem bs_str {xs : List Int} (h : ∀ x ∈ xs, 0 ≤ x ∧ x ≤ 255) : bs (strOfNums xs) = xs := by
  unfold bs strOfNums
  simp only [List.map_map]
  conv => rhs; rw [← List.map_id xs]
  refine List.map_congr_left fun x hx => ?_
  have := h x hx
  simp only [Function.comp, id, UInt8.toNat_ofNat']
  omega
theorem str_bs (s : ByteArray) : strOfNums (bs s) = s := bs_inj (bs_str fun _ hx => bs_range hx)
theorem str_size (xs : List Int) : (strOfNums xs).size = xs.length := by
  show ((xs.map fun n => UInt8.ofNat n.toNat).toArray).size = xs.length
  simp
theorem bs_append (s t : ByteArray) : bs (s ++ t) = bs s ++ bs t := by
  simp [bs]
theorem bs_empty : bs (⟨#[]⟩ : ByteArray) = [] := rfl
theorem bt_str {xs : List Int} (h : ∀ x ∈ xs, 0 ≤ x ∧ x ≤ 255) (i : Nat) (hi : i < xs.length) : bt (strOfNums xs) i = rd xs i := by
  have h1 := bs_get (strOfNums xs) i (by rw [str_size]; exact hi)
  rw [bs_str h] at h1
  unfold rd
  rw [List.getD_eq_getElem?_getD, Int.toNat_natCast, h1]
  rfl
theorem bt_bs (s : ByteArray) (i : Int) : bt s i = rd (bs s) i := by
  unfold rd
  rw [List.getD_eq_getElem?_getD]
  by_cases h : i.toNat < s.size
  · have := bs_get s i.toNat h
    rw [this]
    unfold bt
    simp only [Int.toNat_natCast]
    rw [dif_pos h]
    rfl
  · rw [List.getElem?_eq_none (by rw [bs_length]; omega)]
    unfold bt
    rw [dif_neg h]
    rfl
theorem toList_eq {s t : ByteArray} : s.toList = t.toList ↔ s = t := by
  rw [ByteArray.toList_eq, ByteArray.toList_eq]
  constructor
  · intro h; cases s; cases t; simpa [Array.toList_inj] using h
  · rintro rfl; rfl
theorem tdiv_e {n : Int} (h : 0 ≤ n) (m : Int) : Int.tdiv n m = n / m := Int.tdiv_eq_ediv_of_nonneg h
theorem tmod_e {n : Int} (h : 0 ≤ n) (m : Int) : Int.tmod n m = n % m := Int.tmod_eq_emod_of_nonneg h

/-! ### lists -/
theorem drop_get {α : Type} (xs : List α) (i : Nat) (h : i < xs.length) : xs.drop i = xs[i] :: xs.drop (i + 1) := List.drop_eq_getElem_cons h
theorem w64_len {i n : Nat} (h : i < n) (hn : n ≤ 9223372036854775807) : wrap64 ((i : Int) + 1) = ((i + 1 : Nat) : Int) := by
  rw [w64 (by omega) (by omega)]; omega
theorem take_set {α : Type} (acc : List α) (i : Nat) (v : α) (h : i < acc.length) : (acc.set i v).take (i + 1) = acc.take i ++ [v] := by
  rw [List.take_add_one, List.getElem?_set_self h, List.take_set_of_le (Nat.le_refl i)]; rfl

/-! ### gen -/
/-! ### loops told once: over a list, place by place -/
theorem gen_to {α β : Type} (L : Nat → List α → List β → Int → Option (List β)) (c : α → β) (xs : List α) (K : Nat)
    (hstep : ∀ (k i : Nat) (acc : List β) (h : i < xs.length), acc.length = xs.length → K ≤ k → L (k + 1) xs acc (i : Int) = L k xs (acc.set i (c xs[i])) ((i + 1 : Nat) : Int))
    (hend : ∀ (k : Nat) (acc : List β), L (k + 1) xs acc (xs.length : Int) = some acc) (k : Nat) (acc : List β) (hk : K + xs.length < k) (ha : acc.length = xs.length) : L k xs acc 0 = some (xs.map c) := by
  have go : ∀ (d k i : Nat) (acc : List β), xs.length - i ≤ d → K + d < k → i ≤ xs.length → acc.length = xs.length → acc.take i = (xs.take i).map c → L k xs acc (i : Int) = some (xs.map c) := by
    intro d
    induction d with
    | zero =>
      intro k i acc hd hk hi ha ht
      obtain ⟨k, rfl⟩ : ∃ m, k = m + 1 := ⟨k - 1, by omega⟩
      obtain rfl : i = xs.length := by omega
      rw [hend]
      rw [List.take_length, ← ha, List.take_length] at ht
      rw [ht]
    | succ d ih =>
      intro k i acc hd hk hi ha ht
      obtain ⟨k, rfl⟩ : ∃ m, k = m + 1 := ⟨k - 1, by omega⟩
      by_cases hi2 : i < xs.length
      · rw [hstep k i acc hi2 ha (by omega)]
        refine ih k (i + 1) _ (by omega) (by omega) (by omega) (by rw [List.length_set]; exact ha) ?_
        rw [take_set acc i _ (by omega), ht, List.take_add_one, List.getElem?_eq_getElem hi2, List.map_append]
        rfl
      · obtain rfl : i = xs.length := by omega
        rw [hend]
        rw [List.take_length, ← ha, List.take_length] at ht
        rw [ht]
  exact go xs.length k 0 acc (by omega) hk (by omega) ha (by simp)
theorem gen_eq {β : Type} (L : Nat → List β → List β → Int → Option Bool) (xs : List β) (K : Nat)
    (hstep : ∀ (k i : Nat), i < xs.length → K ≤ k → L (k + 1) xs xs (i : Int) = L k xs xs ((i + 1 : Nat) : Int))
    (hend : ∀ k : Nat, L (k + 1) xs xs (xs.length : Int) = some true) (k : Nat) (hk : K + xs.length < k) : L k xs xs 0 = some true := by
  have go : ∀ (d k i : Nat), xs.length - i ≤ d → K + d < k → i ≤ xs.length → L k xs xs (i : Int) = some true := by
    intro d
    induction d with
    | zero =>
      intro k i hd hk hi
      obtain ⟨k, rfl⟩ : ∃ m, k = m + 1 := ⟨k - 1, by omega⟩
      obtain rfl : i = xs.length := by omega
      exact hend k
    | succ d ih =>
      intro k i hd hk hi
      obtain ⟨k, rfl⟩ : ∃ m, k = m + 1 := ⟨k - 1, by omega⟩
      by_cases hi2 : i < xs.length
      · rw [hstep k i hi2 (by omega)]
        exact ih k (i + 1) (by omega) (by omega) (by omega)
      · obtain rfl : i = xs.length := by omega
        exact hend k
  exact go xs.length k 0 (by omega) hk (by omega)
theorem gen_sz {α : Type} (L : Nat → List α → Int → Int → Option Int) (xs : List α) (P : α → Prop) (K : Nat)
    (hstep : ∀ (k i : Nat) (left : Int) (h : i < xs.length), 0 ≤ left → left ≤ 1048576 → K ≤ k → L (k + 1) xs left (i : Int) = some (-1) ∨ ∃ t, 0 ≤ t ∧ t ≤ left ∧ P xs[i] ∧ L (k + 1) xs left (i : Int) = L k xs t ((i + 1 : Nat) : Int))
    (hend : ∀ (k : Nat) (left : Int), L (k + 1) xs left (xs.length : Int) = some left) (k : Nat) (left : Int) (hk : K + xs.length < k) (h0 : 0 ≤ left) (h1 : left ≤ 1048576) :
    L k xs left 0 = some (-1) ∨ ∃ r, L k xs left 0 = some r ∧ 0 ≤ r ∧ r ≤ left ∧ ∀ y ∈ xs, P y := by
  have go : ∀ (d k i : Nat) (left : Int), xs.length - i ≤ d → K + d < k → i ≤ xs.length → 0 ≤ left → left ≤ 1048576 → L k xs left (i : Int) = some (-1) ∨ ∃ r, L k xs left (i : Int) = some r ∧ 0 ≤ r ∧ r ≤ left ∧ ∀ y ∈ xs.drop i, P y := by
    intro d
    induction d with
    | zero =>
      intro k i left hd hk hi h0 h1
      obtain ⟨k, rfl⟩ : ∃ m, k = m + 1 := ⟨k - 1, by omega⟩
      obtain rfl : i = xs.length := by omega
      exact .inr ⟨left, hend k left, h0, Int.le_refl _, by simp⟩
    | succ d ih =>
      intro k i left hd hk hi h0 h1
      obtain ⟨k, rfl⟩ : ∃ m, k = m + 1 := ⟨k - 1, by omega⟩
      by_cases hi2 : i < xs.length
      · rcases hstep k i left hi2 h0 h1 (by omega) with h | ⟨t, t0, t1, hp, h⟩
        · exact .inl h
        · rw [h]
          rcases ih k (i + 1) t (by omega) (by omega) (by omega) t0 (by omega) with h | ⟨r, hr, r0, r1, ha⟩
          · exact .inl h
          · refine .inr ⟨r, hr, r0, by omega, fun y hy => ?_⟩
            rw [drop_get xs i hi2, List.mem_cons] at hy
            rcases hy with rfl | hy
            · exact hp
            · exact ha y hy
      · obtain rfl : i = xs.length := by omega
        exact .inr ⟨left, hend k left, h0, Int.le_refl _, by simp⟩
  have := go xs.length k 0 left (by omega) hk (by omega) h0 h1
  simpa using this

/-! ### lawsInt -/
theorem rdInt (xs : List Int) (i : Nat) (h : i < xs.length) : rd xs (i : Int) = xs[i] := by simp [rd, List.getD, h]
theorem szIntS_is (xs : List Int) (hl : xs.length ≤ 9223372036854775807) (left : Int) (h0 : 0 ≤ left) (h1 : left ≤ 1048576) : laws_szIntS.f xs left = some (-1) ∨ ∃ t, laws_szIntS.f xs left = some t ∧ 0 ≤ t ∧ t ≤ left ∧ xs.length ≤ 1048576 := by
  unfold laws_szIntS.f
  rw [w64 (n := left - (xs.length : Int)) (by omega) (by omega)]
  by_cases h : left - (xs.length : Int) < 0
  · rw [if_pos h]; exact .inl rfl
  · rw [if_neg h]; exact .inr ⟨_, rfl, by omega, by omega, by omega⟩
theorem toIntS_is (xs : List Int) (hl : xs.length ≤ 1048576) (k : Nat) (hk : xs.length < k) : laws_toIntS.f k xs = some xs := by
  unfold laws_toIntS.f
  rw [if_pos (by omega), if_pos (by omega)]
  have h := gen_to (fun k x a i => laws_toIntS.l0 k x a i) id xs 0 (fun k i acc h ha _ => by
      show laws_toIntS.l0 (k + 1) xs acc (i : Int) = _
      rw [laws_toIntS.l0, if_pos (by omega), if_pos (by omega), if_pos (by omega), rdInt xs i h, w64_len h (by omega)]; rfl)
    (fun k acc => by show laws_toIntS.l0 (k + 1) xs acc _ = _; rw [laws_toIntS.l0, if_neg (by omega)]) k (List.replicate ((xs.length : Int)).toNat 0) (by omega) (by simp)
  rw [List.map_id] at h
  exact h
theorem eqIntS_self (xs : List Int) (hl : xs.length ≤ 9223372036854775807) (k : Nat) (hk : xs.length < k) : laws_eqIntS.f k xs xs = some true := by
  unfold laws_eqIntS.f
  rw [if_pos rfl]
  exact gen_eq (fun k x a i => laws_eqIntS.l0 k x a i) xs 0 (fun k i h _ => by
      show laws_eqIntS.l0 (k + 1) xs xs (i : Int) = _
      rw [laws_eqIntS.l0, if_pos (by omega), if_pos (by omega), if_pos (by omega), if_pos rfl, w64_len h hl])
    (fun k => by show laws_eqIntS.l0 (k + 1) xs xs _ = _; rw [laws_eqIntS.l0, if_neg (by omega)]) k (by omega)

/-! ### ev -/
theorem Ev.shift {α : Type} {g f : Nat → Option α} {r : α} (c : Nat) (h : ∀ k, g (k + c) = f k) (k : Ev f r) : Ev g r := by
  obtain ⟨K, k⟩ := k
  refine ⟨K + c, fun n hn => ?_⟩
  obtain ⟨m, rfl⟩ : ∃ m, n = m + c := ⟨n - c, by omega⟩
  rw [h]
  exact k m (by omega)
theorem Ev.from {α : Type} {g : Nat → Option α} {r : α} (B : Nat) (h : ∀ k, B < k → g k = some r) : Ev g r := ⟨B + 1, fun k hk => h k (by omega)⟩
theorem Ev.always {α : Type} {g : Nat → Option α} {r : α} (h : ∀ k, g k = some r) : Ev g r := ⟨0, fun k _ => h k⟩

/-! ### lawsExpr -/
/-! what the laws' own small functions tell of expressions -/
theorem rdEL (xs : List S126) (i : Nat) (h : i < xs.length) : rd_T126 xs (i : Int) = xs[i] := by simp [rd_T126, List.getD, h]
theorem rdEI (xs : List S34) (i : Nat) (h : i < xs.length) : rd_T34 xs (i : Int) = xs[i] := by simp [rd_T34, List.getD, h]
def smallE (y : S126) : Prop := y.f2.size ≤ 1048576 ∧ y.f3.length ≤ 1048576
theorem szExNode_is (y : S126) (h2 : y.f2.size ≤ 9223372036854775807) (h3 : y.f3.length ≤ 9223372036854775807) (left : Int) (h0 : 0 ≤ left) (h1 : left ≤ 1048576) :
    laws_szExNode.f y.f0 y.f1 y.f2 y.f3 left = some (-1) ∨ ∃ t, laws_szExNode.f y.f0 y.f1 y.f2 y.f3 left = some t ∧ 0 ≤ t ∧ t ≤ left ∧ smallE y := by
  unfold laws_szExNode.f
  rw [w64 (n := left - (y.f2.size : Int)) (by omega) (by omega)]
  by_cases h : left - (y.f2.size : Int) < 0
  · rw [if_pos h]; exact .inl rfl
  · rw [if_neg h]
    rcases szIntS_is y.f3 h3 (left - (y.f2.size : Int)) (by omega) (by omega) with e | ⟨t, e, t0, t1, l3⟩
    · rw [e, Option.bind_some, if_pos (by omega)]; exact .inl rfl
    · rw [e, Option.bind_some, if_neg (by omega)]; exact .inr ⟨t, rfl, t0, by omega, by unfold smallE; omega⟩
def szExprOk (xs : List S126) : Prop := xs.length ≤ 1048576 ∧ ∀ y ∈ xs, smallE y
theorem szExpr_is (xs : List S126) (hx : ∀ y ∈ xs, ok126 y) (hl : xs.length ≤ 9223372036854775807) (left : Int) (h0 : 0 ≤ left) (h1 : left ≤ 1048576) (k : Nat) (hk : xs.length < k) :
    laws_szExpr.f k xs left = some (-1) ∨ ∃ r, laws_szExpr.f k xs left = some r ∧ 0 ≤ r ∧ r ≤ left ∧ szExprOk xs := by
  unfold laws_szExpr.f laws_szExNodeS.f
  rw [w64 (n := left - (xs.length : Int)) (by omega) (by omega)]
  by_cases h2 : left - (xs.length : Int) < 0
  · rw [if_pos h2, Option.bind_some, if_pos (by omega)]; exact .inl rfl
  · rw [if_neg h2]
    have g := gen_sz (fun k x a i => laws_szExNodeS.l0 k x a i) xs smallE 0 (fun k i left h h0 h1 _ => by
        show laws_szExNodeS.l0 (k + 1) xs left (i : Int) = _ ∨ ∃ t, _ ∧ _ ∧ _ ∧ laws_szExNodeS.l0 (k + 1) xs left (i : Int) = laws_szExNodeS.l0 k xs t ((i + 1 : Nat) : Int)
        have ho := hx xs[i] (List.getElem_mem h)
        have m2 : xs[i].f2.size ≤ 9223372036854775807 := by have := ho.2.2.1; unfold maxLen at this; exact this
        have m3 : xs[i].f3.length ≤ 9223372036854775807 := by have := ho.2.2.2.2; unfold maxLen at this; exact this
        rw [laws_szExNodeS.l0, if_pos (by omega), if_pos (by omega), rdEL xs i h, w64_len h hl]
        rcases szExNode_is xs[i] m2 m3 left h0 h1 with e | ⟨t, e, t0, t1, p⟩
        · rw [e, Option.bind_some, if_pos (by omega)]; exact .inl rfl
        · rw [e, Option.bind_some, if_neg (by omega)]; exact .inr ⟨t, t0, t1, p, rfl⟩)
      (fun k left => by show laws_szExNodeS.l0 (k + 1) xs left _ = _; rw [laws_szExNodeS.l0, if_neg (by omega)]) k (left - (xs.length : Int)) (by omega) (by omega) (by omega)
    rcases g with g | ⟨r, g, r0, r1, ha⟩
    · rw [show laws_szExNodeS.l0 k xs (left - (xs.length : Int)) 0 = some (-1) from g, Option.bind_some, if_pos (by omega)]; exact .inl rfl
    · rw [show laws_szExNodeS.l0 k xs (left - (xs.length : Int)) 0 = some r from g, Option.bind_some, if_neg (by omega)]; exact .inr ⟨r, rfl, r0, by omega, by omega, ha⟩
theorem szExpr_ev (xs : List S126) (hx : ∀ y ∈ xs, ok126 y) (hl : xs.length ≤ 9223372036854775807) (left : Int) (h0 : 0 ≤ left) (h1 : left ≤ 1048576) :
    ∃ r, Ev (fun k => laws_szExpr.f k xs left) r ∧ (0 ≤ r → r ≤ left ∧ szExprOk xs) := by
  rcases szExpr_is xs hx hl left h0 h1 (xs.length + 1) (by omega) with e | ⟨r, e, r0, r1, hz⟩
  · exact ⟨-1, Ev.of (laws_szExpr.mono xs left) e, fun h => absurd h (by omega)⟩
  · exact ⟨r, Ev.of (laws_szExpr.mono xs left) e, fun _ => ⟨r1, hz⟩⟩
def toEN (x : S126) : S34 := ⟨x.f0, x.f1, x.f2, x.f3⟩
theorem toExpr_is (xs : List S126) (hz : szExprOk xs) (k : Nat) (hk : 1048577 + xs.length < k) : laws_toExpr.f k xs = some (xs.map toEN) := by
  obtain ⟨hl, ha⟩ := hz
  unfold laws_toExpr.f laws_toExNodeS.f
  rw [if_pos (by omega), if_pos (by omega)]
  have h := gen_to (fun k x a i => laws_toExNodeS.l0 k x a i) toEN xs 1048577 (fun k i acc h hacc hk => by
      show laws_toExNodeS.l0 (k + 1) xs acc (i : Int) = _
      have p := (ha xs[i] (List.getElem_mem h)).2
      rw [laws_toExNodeS.l0, if_pos (by omega), if_pos (by omega), rdEL xs i h, w64_len h (by omega)]
      unfold laws_toExNode.f
      rw [toIntS_is _ p k (by omega), Option.bind_some, Option.bind_some, if_pos (by omega)]
      rfl)
    (fun k acc => by show laws_toExNodeS.l0 (k + 1) xs acc _ = _; rw [laws_toExNodeS.l0, if_neg (by omega)]) k (List.replicate ((xs.length : Int)).toNat z34) hk (by simp)
  rw [show laws_toExNodeS.l0 k xs (List.replicate ((xs.length : Int)).toNat z34) 0 = _ from h]; rfl
def smallEI (xs : List S34) : Prop := xs.length ≤ 1048576 ∧ ∀ y ∈ xs, y.f2.size ≤ 1048576 ∧ y.f3.length ≤ 1048576
theorem smallEI_of {xs : List S126} (h : szExprOk xs) : smallEI (xs.map toEN) := by
  refine ⟨by rw [List.length_map]; exact h.1, fun y hy => ?_⟩
  obtain ⟨x, hx, rfl⟩ := List.mem_map.1 hy
  exact h.2 x hx
theorem eqExpr_self (xs : List S34) (hz : smallEI xs) (k : Nat) (hk : 1048577 + xs.length < k) : laws_eqExpr.f k xs xs = some true := by
  unfold laws_eqExpr.f laws_eqExNodeS.f
  rw [if_pos rfl]
  have h := gen_eq (fun k x a i => laws_eqExNodeS.l0 k x a i) xs 1048577 (fun k i h hk => by
      show laws_eqExNodeS.l0 (k + 1) xs xs (i : Int) = _
      have p := (hz.2 xs[i] (List.getElem_mem h)).2
      have hl := hz.1
      rw [laws_eqExNodeS.l0, if_pos (by omega), if_pos (by omega), if_pos (by omega), rdEI xs i h, w64_len h (by omega)]
      unfold laws_eqExNode.f
      rw [if_pos (show xs[i].f0 = xs[i].f0 from rfl), if_pos (show xs[i].f1 = xs[i].f1 from rfl), if_pos (show xs[i].f2.toList = xs[i].f2.toList from rfl), eqIntS_self _ (by omega) k (by omega), Option.bind_some, if_pos (show true = true from rfl), Option.bind_some, if_pos (show true = true from rfl)])
    (fun k => by show laws_eqExNodeS.l0 (k + 1) xs xs _ = _; rw [laws_eqExNodeS.l0, if_neg (by omega)]) k (by omega)
  rw [show laws_eqExNodeS.l0 k xs xs 0 = _ from h]
  rfl

/-! ### lawsGrammar -/
/-! what the laws' own small functions tell of grammars -/
theorem mx {n : Nat} (h : n ≤ maxLen) : n ≤ 9223372036854775807 := by unfold maxLen at h; exact h
theorem rdStr (xs : List ByteArray) (i : Nat) (h : i < xs.length) : rdOf ByteArray.empty xs (i : Int) = xs[i] := by simp [rdOf, List.getD, h]
theorem rdSE (xs : List S52) (i : Nat) (h : i < xs.length) : rd_T52 xs (i : Int) = xs[i] := by simp [rd_T52, List.getD, h]
theorem rdSS (xs : List S176) (i : Nat) (h : i < xs.length) : rd_T176 xs (i : Int) = xs[i] := by simp [rd_T176, List.getD, h]
theorem rdSA (xs : List S155) (i : Nat) (h : i < xs.length) : rd_T155 xs (i : Int) = xs[i] := by simp [rd_T155, List.getD, h]
theorem rdSR (xs : List S122) (i : Nat) (h : i < xs.length) : rd_T122 xs (i : Int) = xs[i] := by simp [rd_T122, List.getD, h]
theorem rdIE (xs : List S28) (i : Nat) (h : i < xs.length) : rd_T28 xs (i : Int) = xs[i] := by simp [rd_T28, List.getD, h]
theorem rdIS (xs : List S179) (i : Nat) (h : i < xs.length) : rd_T179 xs (i : Int) = xs[i] := by simp [rd_T179, List.getD, h]
theorem rdIA (xs : List S158) (i : Nat) (h : i < xs.length) : rd_T158 xs (i : Int) = xs[i] := by simp [rd_T158, List.getD, h]
theorem rdIR (xs : List S91) (i : Nat) (h : i < xs.length) : rd_T91 xs (i : Int) = xs[i] := by simp [rd_T91, List.getD, h]
/-! sizes -/
theorem szStringS_is (xs : List ByteArray) (hx : ∀ y ∈ xs, y.size ≤ maxLen) (hl : xs.length ≤ maxLen) (left : Int) (h0 : 0 ≤ left) (h1 : left ≤ 1048576) (k : Nat) (hk : 2000000 < k) :
    laws_szStringS.f k xs left = some (-1) ∨ ∃ t, laws_szStringS.f k xs left = some t ∧ 0 ≤ t ∧ t ≤ left ∧ xs.length ≤ 1048576 := by
  have hl := mx hl
  unfold laws_szStringS.f
  rw [w64 (n := left - (xs.length : Int)) (by omega) (by omega)]
  by_cases h2 : left - (xs.length : Int) < 0
  · rw [if_pos h2]; exact .inl rfl
  · rw [if_neg h2]
    have g := gen_sz (fun k x a i => laws_szStringS.l0 k x a i) xs (fun _ => True) 0 (fun k i left h h0 h1 _ => by
        show laws_szStringS.l0 (k + 1) xs left (i : Int) = _ ∨ ∃ t, _ ∧ _ ∧ _ ∧ laws_szStringS.l0 (k + 1) xs left (i : Int) = laws_szStringS.l0 k xs t ((i + 1 : Nat) : Int)
        have m2 := mx (hx xs[i] (List.getElem_mem h))
        rw [laws_szStringS.l0, if_pos (by omega), if_pos (by omega), rdStr xs i h, w64_len h hl, w64 (n := left - (xs[i].size : Int)) (by omega) (by omega)]
        by_cases c : left - (xs[i].size : Int) < 0
        · rw [if_pos c]; exact .inl rfl
        · rw [if_neg c]; exact .inr ⟨_, by omega, by omega, trivial, rfl⟩)
      (fun k left => by show laws_szStringS.l0 (k + 1) xs left _ = _; rw [laws_szStringS.l0, if_neg (by omega)]) k (left - (xs.length : Int)) (by omega) (by omega) (by omega)
    rcases g with g | ⟨r, g, r0, r1, _⟩
    · exact .inl g
    · exact .inr ⟨r, g, r0, by omega, by omega⟩
theorem szExpr_k (xs : List S126) (hx : ∀ y ∈ xs, ok126 y) (hl : xs.length ≤ maxLen) (left : Int) (h0 : 0 ≤ left) (h1 : left ≤ 1048576) (k : Nat) (hk : 2000000 < k) :
    laws_szExpr.f k xs left = some (-1) ∨ ∃ r, laws_szExpr.f k xs left = some r ∧ 0 ≤ r ∧ r ≤ left ∧ szExprOk xs := by
  have hl := mx hl
  by_cases c : xs.length ≤ 1048576
  · exact szExpr_is xs hx hl left h0 h1 k (by omega)
  · refine .inl ?_
    unfold laws_szExpr.f laws_szExNodeS.f
    rw [w64 (n := left - (xs.length : Int)) (by omega) (by omega), if_pos (by omega), Option.bind_some, if_pos (by omega)]
theorem szExprS_is (xs : List S52) (hx : ∀ y ∈ xs, ok52 y) (hl : xs.length ≤ maxLen) (left : Int) (h0 : 0 ≤ left) (h1 : left ≤ 1048576) (k : Nat) (hk : 4000000 < k) :
    laws_szExprS.f k xs left = some (-1) ∨ ∃ t, laws_szExprS.f k xs left = some t ∧ 0 ≤ t ∧ t ≤ left ∧ xs.length ≤ 1048576 ∧ ∀ y ∈ xs, szExprOk y.f0 := by
  have hl := mx hl
  unfold laws_szExprS.f
  rw [w64 (n := left - (xs.length : Int)) (by omega) (by omega)]
  by_cases h2 : left - (xs.length : Int) < 0
  · rw [if_pos h2]; exact .inl rfl
  · rw [if_neg h2]
    have g := gen_sz (fun k x a i => laws_szExprS.l0 k x a i) xs (fun y => szExprOk y.f0) 2000001 (fun k i left h h0 h1 hk => by
        show laws_szExprS.l0 (k + 1) xs left (i : Int) = _ ∨ ∃ t, _ ∧ _ ∧ _ ∧ laws_szExprS.l0 (k + 1) xs left (i : Int) = laws_szExprS.l0 k xs t ((i + 1 : Nat) : Int)
        have m2 := hx xs[i] (List.getElem_mem h)
        rw [laws_szExprS.l0, if_pos (by omega), if_pos (by omega), rdSE xs i h, w64_len h hl]
        rcases szExpr_k xs[i].f0 m2.1 m2.2 left h0 h1 k (by omega) with e | ⟨t, e, t0, t1, p⟩
        · rw [e, Option.bind_some, if_pos (by omega)]; exact .inl rfl
        · rw [e, Option.bind_some, if_neg (by omega)]; exact .inr ⟨t, t0, t1, p, rfl⟩)
      (fun k left => by show laws_szExprS.l0 (k + 1) xs left _ = _; rw [laws_szExprS.l0, if_neg (by omega)]) k (left - (xs.length : Int)) (by omega) (by omega) (by omega)
    rcases g with g | ⟨r, g, r0, r1, ha⟩
    · exact .inl g
    · exact .inr ⟨r, g, r0, by omega, by omega, ha⟩
def smallSy (y : S176) : Prop := y.f2.length ≤ 1048576 ∧ ∀ e ∈ y.f2, szExprOk e.f0
theorem szSym_is (y : S176) (hy : ok176 y) (left : Int) (h0 : 0 ≤ left) (h1 : left ≤ 1048576) (k : Nat) (hk : 4000000 < k) :
    laws_szSym.f k y.f0 y.f1 y.f2 y.f3 left = some (-1) ∨ ∃ t, laws_szSym.f k y.f0 y.f1 y.f2 y.f3 left = some t ∧ 0 ≤ t ∧ t ≤ left ∧ smallSy y := by
  obtain ⟨_, m1, ⟨m2, m3⟩, m4⟩ := hy
  have m1 := mx m1
  have m4 := mx m4
  unfold laws_szSym.f
  rw [w64 (n := left - (y.f1.size : Int)) (by omega) (by omega)]
  by_cases h : left - (y.f1.size : Int) < 0
  · rw [if_pos h]; exact .inl rfl
  · rw [if_neg h]
    rcases szExprS_is y.f2 m2 m3 (left - (y.f1.size : Int)) (by omega) (by omega) k hk with e | ⟨t, e, t0, t1, p⟩
    · rw [e, Option.bind_some, if_pos (by omega)]; exact .inl rfl
    · rw [e, Option.bind_some, if_neg (by omega), w64 (n := t - (y.f3.size : Int)) (by omega) (by omega)]
      by_cases h3 : t - (y.f3.size : Int) < 0
      · rw [if_pos h3]; exact .inl rfl
      · rw [if_neg h3]; exact .inr ⟨_, rfl, by omega, by omega, p⟩
def smallAl (y : S155) : Prop := y.f0.length ≤ 1048576 ∧ ∀ s ∈ y.f0, smallSy s
theorem szAlt_is (y : S155) (hy : ok155 y) (left : Int) (h0 : 0 ≤ left) (h1 : left ≤ 1048576) (k : Nat) (hk : 6000000 < k) :
    laws_szAlt.f k y.f0 left = some (-1) ∨ ∃ t, laws_szAlt.f k y.f0 left = some t ∧ 0 ≤ t ∧ t ≤ left ∧ smallAl y := by
  obtain ⟨hx, hl⟩ := hy
  have hl := mx hl
  unfold laws_szAlt.f laws_szSymS.f
  rw [w64 (n := left - (y.f0.length : Int)) (by omega) (by omega)]
  by_cases h2 : left - (y.f0.length : Int) < 0
  · rw [if_pos h2, Option.bind_some, if_pos (by omega)]; exact .inl rfl
  · rw [if_neg h2]
    obtain ⟨xs⟩ := y
    have hx : ∀ y ∈ xs, ok176 y := hx
    have hl : xs.length ≤ 9223372036854775807 := hl
    have h2 : ¬ left - (xs.length : Int) < 0 := h2
    have g := gen_sz (fun k x a i => laws_szSymS.l0 k x a i) xs smallSy 4000001 (fun k i left h h0 h1 hk => by
        show laws_szSymS.l0 (k + 1) xs left (i : Int) = _ ∨ ∃ t, _ ∧ _ ∧ _ ∧ laws_szSymS.l0 (k + 1) xs left (i : Int) = laws_szSymS.l0 k xs t ((i + 1 : Nat) : Int)
        rw [laws_szSymS.l0, if_pos (by omega), if_pos (by omega), rdSS xs i h, w64_len h hl]
        rcases szSym_is xs[i] (hx xs[i] (List.getElem_mem h)) left h0 h1 k (by omega) with e | ⟨t, e, t0, t1, p⟩
        · rw [e, Option.bind_some, if_pos (by omega)]; exact .inl rfl
        · rw [e, Option.bind_some, if_neg (by omega)]; exact .inr ⟨t, t0, t1, p, rfl⟩)
      (fun k left => by show laws_szSymS.l0 (k + 1) xs left _ = _; rw [laws_szSymS.l0, if_neg (by omega)]) k (left - (xs.length : Int)) (by omega) (by omega) (by omega)
    show (laws_szSymS.l0 k xs (left - (xs.length : Int)) 0).bind _ = _ ∨ ∃ t, (laws_szSymS.l0 k xs (left - (xs.length : Int)) 0).bind _ = _ ∧ _
    rcases g with g | ⟨r, g, r0, r1, ha⟩
    · rw [show laws_szSymS.l0 k xs (left - (xs.length : Int)) 0 = some (-1) from g, Option.bind_some, if_pos (by omega)]; exact .inl rfl
    · rw [show laws_szSymS.l0 k xs (left - (xs.length : Int)) 0 = some r from g, Option.bind_some, if_neg (by omega)]; exact .inr ⟨r, rfl, r0, by omega, by show xs.length ≤ 1048576; omega, ha⟩
def smallRu (y : S122) : Prop := y.f0.size ≤ 1048576 ∧ y.f1.length ≤ 1048576 ∧ y.f2.length ≤ 1048576 ∧ ∀ a ∈ y.f2, smallAl a
theorem szAltS_is (xs : List S155) (hx : ∀ y ∈ xs, ok155 y) (hl : xs.length ≤ maxLen) (left : Int) (h0 : 0 ≤ left) (h1 : left ≤ 1048576) (k : Nat) (hk : 8000000 < k) :
    laws_szAltS.f k xs left = some (-1) ∨ ∃ t, laws_szAltS.f k xs left = some t ∧ 0 ≤ t ∧ t ≤ left ∧ xs.length ≤ 1048576 ∧ ∀ y ∈ xs, smallAl y := by
  have hl := mx hl
  unfold laws_szAltS.f
  rw [w64 (n := left - (xs.length : Int)) (by omega) (by omega)]
  by_cases h2 : left - (xs.length : Int) < 0
  · rw [if_pos h2]; exact .inl rfl
  · rw [if_neg h2]
    have g := gen_sz (fun k x a i => laws_szAltS.l0 k x a i) xs smallAl 6000001 (fun k i left h h0 h1 hk => by
        show laws_szAltS.l0 (k + 1) xs left (i : Int) = _ ∨ ∃ t, _ ∧ _ ∧ _ ∧ laws_szAltS.l0 (k + 1) xs left (i : Int) = laws_szAltS.l0 k xs t ((i + 1 : Nat) : Int)
        rw [laws_szAltS.l0, if_pos (by omega), if_pos (by omega), rdSA xs i h, w64_len h hl]
        rcases szAlt_is xs[i] (hx xs[i] (List.getElem_mem h)) left h0 h1 k (by omega) with e | ⟨t, e, t0, t1, p⟩
        · rw [e, Option.bind_some, if_pos (by omega)]; exact .inl rfl
        · rw [e, Option.bind_some, if_neg (by omega)]; exact .inr ⟨t, t0, t1, p, rfl⟩)
      (fun k left => by show laws_szAltS.l0 (k + 1) xs left _ = _; rw [laws_szAltS.l0, if_neg (by omega)]) k (left - (xs.length : Int)) (by omega) (by omega) (by omega)
    rcases g with g | ⟨r, g, r0, r1, ha⟩
    · exact .inl g
    · exact .inr ⟨r, g, r0, by omega, by omega, ha⟩
theorem szRule_is (y : S122) (hy : ok122 y) (left : Int) (h0 : 0 ≤ left) (h1 : left ≤ 1048576) (k : Nat) (hk : 8000000 < k) :
    laws_szRule.f k y.f0 y.f1 y.f2 left = some (-1) ∨ ∃ t, laws_szRule.f k y.f0 y.f1 y.f2 left = some t ∧ 0 ≤ t ∧ t ≤ left ∧ smallRu y := by
  obtain ⟨m0, ⟨m1, m2⟩, ⟨m3, m4⟩⟩ := hy
  have m0 := mx m0
  unfold laws_szRule.f
  rw [w64 (n := left - (y.f0.size : Int)) (by omega) (by omega)]
  by_cases h : left - (y.f0.size : Int) < 0
  · rw [if_pos h]; exact .inl rfl
  · rw [if_neg h]
    rcases szStringS_is y.f1 m1 m2 (left - (y.f0.size : Int)) (by omega) (by omega) k (by omega) with e | ⟨t, e, t0, t1, p⟩
    · rw [e, Option.bind_some, if_pos (by omega)]; exact .inl rfl
    · rw [e, Option.bind_some, if_neg (by omega)]
      rcases szAltS_is y.f2 m3 m4 t t0 (by omega) k hk with e2 | ⟨t2, e2, u0, u1, q⟩
      · rw [e2, Option.bind_some, if_pos (by omega)]; exact .inl rfl
      · rw [e2, Option.bind_some, if_neg (by omega)]; exact .inr ⟨_, rfl, u0, by omega, by omega, p, q⟩
def smallGr (xs : List S122) : Prop := xs.length ≤ 1048576 ∧ ∀ y ∈ xs, smallRu y
theorem szGrammar_is (xs : List S122) (hx : ∀ y ∈ xs, ok122 y) (hl : xs.length ≤ maxLen) (left : Int) (h0 : 0 ≤ left) (h1 : left ≤ 1048576) (k : Nat) (hk : 10000000 < k) :
    laws_szGrammar.f k xs left = some (-1) ∨ ∃ t, laws_szGrammar.f k xs left = some t ∧ 0 ≤ t ∧ t ≤ left ∧ smallGr xs := by
  have hl := mx hl
  unfold laws_szGrammar.f laws_szRuleS.f
  rw [w64 (n := left - (xs.length : Int)) (by omega) (by omega)]
  by_cases h2 : left - (xs.length : Int) < 0
  · rw [if_pos h2, Option.bind_some, if_pos (by omega)]; exact .inl rfl
  · rw [if_neg h2]
    have g := gen_sz (fun k x a i => laws_szRuleS.l0 k x a i) xs smallRu 8000001 (fun k i left h h0 h1 hk => by
        show laws_szRuleS.l0 (k + 1) xs left (i : Int) = _ ∨ ∃ t, _ ∧ _ ∧ _ ∧ laws_szRuleS.l0 (k + 1) xs left (i : Int) = laws_szRuleS.l0 k xs t ((i + 1 : Nat) : Int)
        rw [laws_szRuleS.l0, if_pos (by omega), if_pos (by omega), rdSR xs i h, w64_len h hl]
        rcases szRule_is xs[i] (hx xs[i] (List.getElem_mem h)) left h0 h1 k (by omega) with e | ⟨t, e, t0, t1, p⟩
        · rw [e, Option.bind_some, if_pos (by omega)]; exact .inl rfl
        · rw [e, Option.bind_some, if_neg (by omega)]; exact .inr ⟨t, t0, t1, p, rfl⟩)
      (fun k left => by show laws_szRuleS.l0 (k + 1) xs left _ = _; rw [laws_szRuleS.l0, if_neg (by omega)]) k (left - (xs.length : Int)) (by omega) (by omega) (by omega)
    rcases g with g | ⟨r, g, r0, r1, ha⟩
    · rw [show laws_szRuleS.l0 k xs (left - (xs.length : Int)) 0 = some (-1) from g, Option.bind_some, if_pos (by omega)]; exact .inl rfl
    · rw [show laws_szRuleS.l0 k xs (left - (xs.length : Int)) 0 = some r from g, Option.bind_some, if_neg (by omega)]; exact .inr ⟨r, rfl, r0, by omega, by omega, ha⟩
/-! copies -/
theorem toStringS_is (xs : List ByteArray) (hl : xs.length ≤ 1048576) (k : Nat) (hk : 2000000 < k) : laws_toStringS.f k xs = some xs := by
  unfold laws_toStringS.f
  rw [if_pos (by omega), if_pos (by omega)]
  have h := gen_to (fun k x a i => laws_toStringS.l0 k x a i) id xs 0 (fun k i acc h ha _ => by
      show laws_toStringS.l0 (k + 1) xs acc (i : Int) = _
      rw [laws_toStringS.l0, if_pos (by omega), if_pos (by omega), if_pos (by omega), rdStr xs i h, w64_len h (by omega)]; rfl)
    (fun k acc => by show laws_toStringS.l0 (k + 1) xs acc _ = _; rw [laws_toStringS.l0, if_neg (by omega)]) k (List.replicate ((xs.length : Int)).toNat (⟨#[]⟩ : ByteArray)) (by omega) (by simp)
  rw [List.map_id] at h
  exact h
def toEx (x : S52) : S28 := ⟨x.f0.map toEN⟩
def toSy (x : S176) : S179 := ⟨x.f0, x.f1, x.f2.map toEx, x.f3⟩
def toAl (x : S155) : S158 := ⟨x.f0.map toSy⟩
def toRu (x : S122) : S91 := ⟨x.f0, x.f1, x.f2.map toAl⟩
theorem toExprS_is (xs : List S52) (hl : xs.length ≤ 1048576) (hx : ∀ y ∈ xs, szExprOk y.f0) (k : Nat) (hk : 6000000 < k) : laws_toExprS.f k xs = some (xs.map toEx) := by
  unfold laws_toExprS.f
  rw [if_pos (by omega), if_pos (by omega)]
  have h := gen_to (fun k x a i => laws_toExprS.l0 k x a i) toEx xs 4000001 (fun k i acc h ha hk => by
      show laws_toExprS.l0 (k + 1) xs acc (i : Int) = _
      have p := hx xs[i] (List.getElem_mem h)
      have p1 := p.1
      rw [laws_toExprS.l0, if_pos (by omega), if_pos (by omega), rdSE xs i h, toExpr_is _ p k (by omega), Option.bind_some, if_pos (by omega), w64_len h (by omega)]; rfl)
    (fun k acc => by show laws_toExprS.l0 (k + 1) xs acc _ = _; rw [laws_toExprS.l0, if_neg (by omega)]) k (List.replicate ((xs.length : Int)).toNat z28) (by omega) (by simp)
  exact h
theorem toSym_is (y : S176) (hy : smallSy y) (k : Nat) (hk : 6000000 < k) : laws_toSym.f k y.f0 y.f1 y.f2 y.f3 = some (y.f0, y.f1, y.f2.map toEx, y.f3) := by
  unfold laws_toSym.f
  rw [toExprS_is y.f2 hy.1 hy.2 k hk, Option.bind_some]
theorem toAlt_is (xs : List S176) (hl : xs.length ≤ 1048576) (hx : ∀ y ∈ xs, smallSy y) (k : Nat) (hk : 8000000 < k) : laws_toAlt.f k xs = some (xs.map toSy) := by
  unfold laws_toAlt.f laws_toSymS.f
  rw [if_pos (by omega), if_pos (by omega)]
  have h := gen_to (fun k x a i => laws_toSymS.l0 k x a i) toSy xs 6000001 (fun k i acc h ha hk => by
      show laws_toSymS.l0 (k + 1) xs acc (i : Int) = _
      rw [laws_toSymS.l0, if_pos (by omega), if_pos (by omega), rdSS xs i h, toSym_is _ (hx xs[i] (List.getElem_mem h)) k (by omega), Option.bind_some, if_pos (by omega), w64_len h (by omega)]; rfl)
    (fun k acc => by show laws_toSymS.l0 (k + 1) xs acc _ = _; rw [laws_toSymS.l0, if_neg (by omega)]) k (List.replicate ((xs.length : Int)).toNat z179) (by omega) (by simp)
  rw [show laws_toSymS.l0 k xs (List.replicate ((xs.length : Int)).toNat z179) 0 = _ from h]; rfl
theorem toAltS_is (xs : List S155) (hl : xs.length ≤ 1048576) (hx : ∀ y ∈ xs, smallAl y) (k : Nat) (hk : 10000000 < k) : laws_toAltS.f k xs = some (xs.map toAl) := by
  unfold laws_toAltS.f
  rw [if_pos (by omega), if_pos (by omega)]
  have h := gen_to (fun k x a i => laws_toAltS.l0 k x a i) toAl xs 8000001 (fun k i acc h ha hk => by
      show laws_toAltS.l0 (k + 1) xs acc (i : Int) = _
      have p := hx xs[i] (List.getElem_mem h)
      rw [laws_toAltS.l0, if_pos (by omega), if_pos (by omega), rdSA xs i h, toAlt_is _ p.1 p.2 k (by omega), Option.bind_some, if_pos (by omega), w64_len h (by omega)]; rfl)
    (fun k acc => by show laws_toAltS.l0 (k + 1) xs acc _ = _; rw [laws_toAltS.l0, if_neg (by omega)]) k (List.replicate ((xs.length : Int)).toNat z158) (by omega) (by simp)
  exact h
theorem toRule_is (y : S122) (hy : smallRu y) (k : Nat) (hk : 10000000 < k) : laws_toRule.f k y.f0 y.f1 y.f2 = some (y.f0, y.f1, y.f2.map toAl) := by
  unfold laws_toRule.f
  rw [toStringS_is y.f1 hy.2.1 k (by omega), Option.bind_some, toAltS_is y.f2 hy.2.2.1 hy.2.2.2 k hk, Option.bind_some]
theorem toGrammar_is (xs : List S122) (hz : smallGr xs) (k : Nat) (hk : 12000000 < k) : laws_toGrammar.f k xs = some (xs.map toRu) := by
  obtain ⟨hl, hx⟩ := hz
  unfold laws_toGrammar.f laws_toRuleS.f
  rw [if_pos (by omega), if_pos (by omega)]
  have h := gen_to (fun k x a i => laws_toRuleS.l0 k x a i) toRu xs 10000001 (fun k i acc h ha hk => by
      show laws_toRuleS.l0 (k + 1) xs acc (i : Int) = _
      rw [laws_toRuleS.l0, if_pos (by omega), if_pos (by omega), rdSR xs i h, toRule_is _ (hx xs[i] (List.getElem_mem h)) k (by omega), Option.bind_some, if_pos (by omega), w64_len h (by omega)]; rfl)
    (fun k acc => by show laws_toRuleS.l0 (k + 1) xs acc _ = _; rw [laws_toRuleS.l0, if_neg (by omega)]) k (List.replicate ((xs.length : Int)).toNat z91) (by omega) (by simp)
  rw [show laws_toRuleS.l0 k xs (List.replicate ((xs.length : Int)).toNat z91) 0 = _ from h]; rfl
/-! what is equal to itself -/
theorem eqStringS_self (xs : List ByteArray) (hl : xs.length ≤ 1048576) (k : Nat) (hk : 2000000 < k) : laws_eqStringS.f k xs xs = some true := by
  unfold laws_eqStringS.f
  rw [if_pos rfl]
  exact gen_eq (fun k x a i => laws_eqStringS.l0 k x a i) xs 0 (fun k i h _ => by
      show laws_eqStringS.l0 (k + 1) xs xs (i : Int) = _
      rw [laws_eqStringS.l0, if_pos (by omega), if_pos (by omega), if_pos (by omega), if_pos rfl, w64_len h (by omega)])
    (fun k => by show laws_eqStringS.l0 (k + 1) xs xs _ = _; rw [laws_eqStringS.l0, if_neg (by omega)]) k (by omega)
theorem eqExprS_self (xs : List S52) (hl : xs.length ≤ 1048576) (hx : ∀ y ∈ xs, szExprOk y.f0) (k : Nat) (hk : 6000000 < k) : laws_eqExprS.f k (xs.map toEx) (xs.map toEx) = some true := by
  unfold laws_eqExprS.f
  rw [if_pos rfl]
  exact gen_eq (fun k x a i => laws_eqExprS.l0 k x a i) (xs.map toEx) 4000001 (fun k i h hk => by
      show laws_eqExprS.l0 (k + 1) _ _ (i : Int) = _
      have h2 : i < xs.length := by rwa [List.length_map] at h
      have p := hx xs[i] (List.getElem_mem h2)
      have p1 := p.1
      rw [laws_eqExprS.l0, if_pos (by omega), if_pos (by omega), if_pos (by omega), rdIE _ i h, List.getElem_map, show (toEx xs[i]).f0 = xs[i].f0.map toEN from rfl, eqExpr_self _ (smallEI_of p) k (by rw [List.length_map]; omega), Option.bind_some, if_pos rfl, w64_len h (by rw [List.length_map]; omega)])
    (fun k => by show laws_eqExprS.l0 (k + 1) _ _ _ = _; rw [laws_eqExprS.l0, if_neg (by omega)]) k (by rw [List.length_map]; omega)
theorem eqAlt_self (xs : List S176) (hl : xs.length ≤ 1048576) (hx : ∀ y ∈ xs, smallSy y) (k : Nat) (hk : 8000000 < k) : laws_eqAlt.f k (xs.map toSy) (xs.map toSy) = some true := by
  unfold laws_eqAlt.f laws_eqSymS.f
  rw [if_pos rfl]
  have h := gen_eq (fun k x a i => laws_eqSymS.l0 k x a i) (xs.map toSy) 6000001 (fun k i h hk => by
      show laws_eqSymS.l0 (k + 1) _ _ (i : Int) = _
      have h2 : i < xs.length := by rwa [List.length_map] at h
      have p := hx xs[i] (List.getElem_mem h2)
      rw [laws_eqSymS.l0, if_pos (by omega), if_pos (by omega), if_pos (by omega), rdIS _ i h, List.getElem_map]
      unfold laws_eqSym.f
      rw [if_pos rfl, if_pos rfl, show (toSy xs[i]).f2 = xs[i].f2.map toEx from rfl, eqExprS_self _ p.1 p.2 k (by omega), Option.bind_some, if_pos rfl, if_pos rfl, Option.bind_some, if_pos rfl, w64_len h (by rw [List.length_map]; omega)])
    (fun k => by show laws_eqSymS.l0 (k + 1) _ _ _ = _; rw [laws_eqSymS.l0, if_neg (by omega)]) k (by rw [List.length_map]; omega)
  rw [show laws_eqSymS.l0 k (xs.map toSy) (xs.map toSy) 0 = _ from h]; rfl
theorem eqAltS_self (xs : List S155) (hl : xs.length ≤ 1048576) (hx : ∀ y ∈ xs, smallAl y) (k : Nat) (hk : 10000000 < k) : laws_eqAltS.f k (xs.map toAl) (xs.map toAl) = some true := by
  unfold laws_eqAltS.f
  rw [if_pos rfl]
  exact gen_eq (fun k x a i => laws_eqAltS.l0 k x a i) (xs.map toAl) 8000001 (fun k i h hk => by
      show laws_eqAltS.l0 (k + 1) _ _ (i : Int) = _
      have h2 : i < xs.length := by rwa [List.length_map] at h
      have p := hx xs[i] (List.getElem_mem h2)
      rw [laws_eqAltS.l0, if_pos (by omega), if_pos (by omega), if_pos (by omega), rdIA _ i h, List.getElem_map, show (toAl xs[i]).f0 = xs[i].f0.map toSy from rfl, eqAlt_self _ p.1 p.2 k (by omega), Option.bind_some, if_pos rfl, w64_len h (by rw [List.length_map]; omega)])
    (fun k => by show laws_eqAltS.l0 (k + 1) _ _ _ = _; rw [laws_eqAltS.l0, if_neg (by omega)]) k (by rw [List.length_map]; omega)
theorem eqGrammar_self (xs : List S122) (hz : smallGr xs) (k : Nat) (hk : 12000000 < k) : laws_eqGrammar.f k (xs.map toRu) (xs.map toRu) = some true := by
  obtain ⟨hl, hx⟩ := hz
  unfold laws_eqGrammar.f laws_eqRuleS.f
  rw [if_pos rfl]
  have h := gen_eq (fun k x a i => laws_eqRuleS.l0 k x a i) (xs.map toRu) 10000001 (fun k i h hk => by
      show laws_eqRuleS.l0 (k + 1) _ _ (i : Int) = _
      have h2 : i < xs.length := by rwa [List.length_map] at h
      have p := hx xs[i] (List.getElem_mem h2)
      rw [laws_eqRuleS.l0, if_pos (by omega), if_pos (by omega), if_pos (by omega), rdIR _ i h, List.getElem_map]
      unfold laws_eqRule.f
      rw [if_pos rfl, show (toRu xs[i]).f1 = xs[i].f1 from rfl, eqStringS_self _ p.2.1 k (by omega), Option.bind_some, if_pos rfl, show (toRu xs[i]).f2 = xs[i].f2.map toAl from rfl, eqAltS_self _ p.2.2.1 p.2.2.2 k (by omega), Option.bind_some, if_pos rfl, Option.bind_some, if_pos rfl,
        w64_len h (by rw [List.length_map]; omega)])
    (fun k => by show laws_eqRuleS.l0 (k + 1) _ _ _ = _; rw [laws_eqRuleS.l0, if_neg (by omega)]) k (by rw [List.length_map]; omega)
  rw [show laws_eqRuleS.l0 k (xs.map toRu) (xs.map toRu) 0 = _ from h]; rfl

/-! ### FnExactRuleAt -/
theorem specRuleAt_l0 (xs : List S91) (s : ByteArray) (hl : xs.length ≤ 9223372036854775807) (d : Nat) : ∀ (k i : Nat), xs.length - i ≤ d → d < k → spec_RuleAt.l0 k s (i : Int) xs = some (impl_RuleAt.first s (xs.drop i) (i : Int)) := by
  induction d with
  | zero =>
    intro k i hd hk
    obtain ⟨k, rfl⟩ : ∃ m, k = m + 1 := ⟨k - 1, by omega⟩
    rw [spec_RuleAt.l0, if_neg (by omega), List.drop_eq_nil_of_le (by omega)]; rfl
  | succ d ih =>
    intro k i hd hk
    obtain ⟨k, rfl⟩ : ∃ m, k = m + 1 := ⟨k - 1, by omega⟩
    by_cases hi : i < xs.length
    · rw [spec_RuleAt.l0, if_pos (by omega), if_pos (by omega), rdIR xs i hi, w64_len hi hl, ih k (i + 1) (by omega) (by omega), drop_get xs i hi]
      simp only [impl_RuleAt.first]
      by_cases h : xs[i].f0.toList = s.toList
      · rw [if_pos h, if_pos (by simpa using h)]
      · rw [if_neg h, if_neg (by simpa using h), show ((i + 1 : Nat) : Int) = (i : Int) + 1 from by omega]
    · rw [spec_RuleAt.l0, if_neg (by omega), List.drop_eq_nil_of_le (by omega)]; rfl
theorem FnExactRuleAt : laws_FnExactRuleAt.Pure := by
  intro xs s hx hl hs
  refine ⟨20000000, ?_⟩
  unfold laws_FnExactRuleAt.f
  by_cases hbig : (s.size : Int) > 1048576
  · rw [if_pos hbig]
  rw [if_neg hbig]
  rcases szGrammar_is xs hx hl 1048576 (by omega) (by omega) 20000000 (by omega) with e | ⟨t, e, t0, t1, hz⟩
  · rw [e, Option.bind_some, if_pos (by omega)]
  have hlen : (xs.map toRu).length ≤ 1048576 := by rw [List.length_map]; exact hz.1
  have sp : spec_RuleAt.f 20000000 (xs.map toRu) s = some (impl_RuleAt.first s (xs.map toRu) 0) := by
    unfold spec_RuleAt.f
    exact specRuleAt_l0 (xs.map toRu) s (by omega) (xs.map toRu).length 20000000 0 (by omega) (by omega)
  rw [e, Option.bind_some, if_neg (by omega), toGrammar_is xs hz _ (by omega), Option.bind_some, sp, Option.bind_some, Option.bind_some]
  unfold impl_RuleAt.f
  rw [Option.bind_some, if_pos rfl, Option.bind_some, eqGrammar_self xs hz _ (by omega), Option.bind_some, if_pos rfl]

end Go.Proofs.Ytnmhggdaccbbfaa.Pure
