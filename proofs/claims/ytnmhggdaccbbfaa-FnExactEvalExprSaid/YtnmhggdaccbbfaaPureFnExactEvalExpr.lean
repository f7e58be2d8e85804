/- FnExactEvalExpr without Go: at every expression, every list of names and every place the program's EvalExpr and the reference's answer the same. -/
import Derived.Test.YtnmhggdaccbbfaaMFnExactEvalExprok
set_option linter.unusedVariables false
set_option linter.unusedSimpArgs false
set_option maxHeartbeats 400000
namespace Go.Proofs.Ytnmhggdaccbbfaa.Pure
open Go.RowKit Go.Proofs.Ytnmhggdaccbbfaa.MFnExactEvalExpr Go.Proofs.YtnmhggdaccbbfaaW.PrintWords Go.Proofs.YtnmhggdaccbbfaaW.PrintLast
/-! ### base -/
theorem w64 {n : Int} (h : -9223372036854775808 ≤ n) (h' : n ≤ 9223372036854775807) : wrap64 n = n := by unfold wrap64; omega
theorem w64_succ {i m : Nat} (h : i < m) (hm : m ≤ 140737488351232) : wrap64 ((i : Int) + 1) = ((i + 1 : Nat) : Int) := by
  rw [w64 (by omega) (by omega)]; omega
theorem w64_bt (s : ByteArray) (i : Int) : wrap64 (bt s i) = bt s i := by
  have := bt_range s i
  exact w64 (by omega) (by omega)
/-- A string's bytes as numbers. -/
def bs (s : ByteArray) : List Int := s.data.toList.map fun b => (b.toNat : Int)
theorem bs_length (s : ByteArray) : (bs s).length = s.size := by simp [bs]
theorem bs_get (s : ByteArray) (i : Nat) (h : i < s.size) : (bs s)[i]? = some (bt s i) := by
  have h2 : i < s.data.toList.length := by simpa using h
  simp only [bs, List.getElem?_map, List.getElem?_eq_getElem h2, Option.map_some]
  unfold bt
  rw [dif_pos (by simpa using h)]
  rfl
theorem bs_drop (s : ByteArray) (i : Nat) (h : i < s.size) : (bs s).drop i = bt s i :: (bs s).drop (i + 1) := by
  have h2 : i < (bs s).length := by rw [bs_length]; exact h
  rw [List.drop_eq_getElem_cons h2]
  congr 1
  have := bs_get s i h
  rw [List.getElem?_eq_getElem h2] at this
  exact Option.some.inj this
theorem bs_drop_nil (s : ByteArray) (i : Nat) (h : s.size ≤ i) : (bs s).drop i = [] := List.drop_eq_nil_of_le (by rw [bs_length]; exact h)
theorem bs_range {s : ByteArray} {c : Int} (h : c ∈ bs s) : 0 ≤ c ∧ c ≤ 255 := by
  simp only [bs, List.mem_map] at h
  obtain ⟨b, _, rfl⟩ := h
  have := b.toNat_lt
  omega
theorem bs_inj {s t : ByteArray} (h : bs s = bs t) : s = t := by
  have hd : s.data.toList = t.data.toList := by
    refine List.map_inj_right (f := fun b : UInt8 => (b.toNat : Int)) (fun a b hab => ?_) |>.1 h
    have hab2 : (a.toNat : Int) = b.toNat := hab
    exact UInt8.toNat_inj.1 (by omega)
  cases s; cases t
  simp only [ByteArray.mk.injEq]
  exact Array.toList_inj.1 hd
theorem bs_str {xs : List Int} (h : ∀ x ∈ xs, 0 ≤ x ∧ x ≤ 255) : bs (strOfNums xs) = xs := by
  unfold bs strOfNums
  simp only [List.map_map]
  conv => rhs; rw [← List.map_id xs]
  refine List.map_congr_left fun x hx => ?_
  have := h x hx
  simp only [Function.comp, id, UInt8.toNat_ofNat']
  omega
theorem str_bs (s : ByteArray) : strOfNums (bs s) = s := bs_inj (bs_str fun _ hx => bs_range hx)
theorem str_size (xs : List Int) : (strOfNums xs).size = xs.length := by
  show ((xs.map fun n => UInt8.ofNat n.toNat).toArray).size = xs.length
  simp
theorem bs_append (s t : ByteArray) : bs (s ++ t) = bs s ++ bs t := by
  simp [bs]
theorem bs_empty : bs (⟨#[]⟩ : ByteArray) = [] := rfl
theorem bt_str {xs : List Int} (h : ∀ x ∈ xs, 0 ≤ x ∧ x ≤ 255) (i : Nat) (hi : i < xs.length) : bt (strOfNums xs) i = rd xs i := by
  have h1 := bs_get (strOfNums xs) i (by rw [str_size]; exact hi)
  rw [bs_str h] at h1
  unfold rd
  rw [List.getD_eq_getElem?_getD, Int.toNat_natCast, h1]
  rfl
theorem bt_bs (s : ByteArray) (i : Int) : bt s i = rd (bs s) i := by
  unfold rd
  rw [List.getD_eq_getElem?_getD]
  by_cases h : i.toNat < s.size
  · have := bs_get s i.toNat h
    rw [this]
    unfold bt
    simp only [Int.toNat_natCast]
    rw [dif_pos h]
    rfl
  · rw [List.getElem?_eq_none (by rw [bs_length]; omega)]
    unfold bt
    rw [dif_neg h]
    rfl
theorem toList_eq {s t : ByteArray} : s.toList = t.toList ↔ s = t := by
  rw [ByteArray.toList_eq, ByteArray.toList_eq]
  constructor
  · intro h; cases s; cases t; simpa [Array.toList_inj] using h
  · rintro rfl; rfl
theorem tdiv_e {n : Int} (h : 0 ≤ n) (m : Int) : Int.tdiv n m = n / m := Int.tdiv_eq_ediv_of_nonneg h
theorem tmod_e {n : Int} (h : 0 ≤ n) (m : Int) : Int.tmod n m = n % m := Int.tmod_eq_emod_of_nonneg h

/-! ### lists -/
theorem drop_get {α : Type} (xs : List α) (i : Nat) (h : i < xs.length) : xs.drop i = xs[i] :: xs.drop (i + 1) := List.drop_eq_getElem_cons h
theorem w64_len {i n : Nat} (h : i < n) (hn : n ≤ 9223372036854775807) : wrap64 ((i : Int) + 1) = ((i + 1 : Nat) : Int) := by
  rw [w64 (by omega) (by omega)]; omega
theorem take_set {α : Type} (acc : List α) (i : Nat) (v : α) (h : i < acc.length) : (acc.set i v).take (i + 1) = acc.take i ++ [v] := by
  rw [List.take_add_one, List.getElem?_set_self h, List.take_set_of_le (Nat.le_refl i)]; rfl

/-! ### gen -/
/-! ### loops told once: over a list, place by place -/
theorem gen_to {α β : Type} (L : Nat → List α → List β → Int → Option (List β)) (c : α → β) (xs : List α) (K : Nat)
    (hstep : ∀ (k i : Nat) (acc : List β) (h : i < xs.length), acc.length = xs.length → K ≤ k → L (k + 1) xs acc (i : Int) = L k xs (acc.set i (c xs[i])) ((i + 1 : Nat) : Int))
    (hend : ∀ (k : Nat) (acc : List β), L (k + 1) xs acc (xs.length : Int) = some acc) (k : Nat) (acc : List β) (hk : K + xs.length < k) (ha : acc.length = xs.length) : L k xs acc 0 = some (xs.map c) := by
  have go : ∀ (d k i : Nat) (acc : List β), xs.length - i ≤ d → K + d < k → i ≤ xs.length → acc.length = xs.length → acc.take i = (xs.take i).map c → L k xs acc (i : Int) = some (xs.map c) := by
    intro d
    induction d with
    | zero =>
      intro k i acc hd hk hi ha ht
      obtain ⟨k, rfl⟩ : ∃ m, k = m + 1 := ⟨k - 1, by omega⟩
      obtain rfl : i = xs.length := by omega
      rw [hend]
      rw [List.take_length, ← ha, List.take_length] at ht
      rw [ht]
    | succ d ih =>
      intro k i acc hd hk hi ha ht
      obtain ⟨k, rfl⟩ : ∃ m, k = m + 1 := ⟨k - 1, by omega⟩
      by_cases hi2 : i < xs.length
      · rw [hstep k i acc hi2 ha (by omega)]
        refine ih k (i + 1) _ (by omega) (by omega) (by omega) (by rw [List.length_set]; exact ha) ?_
        rw [take_set acc i _ (by omega), ht, List.take_add_one, List.getElem?_eq_getElem hi2, List.map_append]
        rfl
      · obtain rfl : i = xs.length := by omega
        rw [hend]
        rw [List.take_length, ← ha, List.take_length] at ht
        rw [ht]
  exact go xs.length k 0 acc (by omega) hk (by omega) ha (by simp)
theorem gen_eq {β : Type} (L : Nat → List β → List β → Int → Option Bool) (xs : List β) (K : Nat)
    (hstep : ∀ (k i : Nat), i < xs.length → K ≤ k → L (k + 1) xs xs (i : Int) = L k xs xs ((i + 1 : Nat) : Int))
    (hend : ∀ k : Nat, L (k + 1) xs xs (xs.length : Int) = some true) (k : Nat) (hk : K + xs.length < k) : L k xs xs 0 = some true := by
  have go : ∀ (d k i : Nat), xs.length - i ≤ d → K + d < k → i ≤ xs.length → L k xs xs (i : Int) = some true := by
    intro d
    induction d with
    | zero =>
      intro k i hd hk hi
      obtain ⟨k, rfl⟩ : ∃ m, k = m + 1 := ⟨k - 1, by omega⟩
      obtain rfl : i = xs.length := by omega
      exact hend k
    | succ d ih =>
      intro k i hd hk hi
      obtain ⟨k, rfl⟩ : ∃ m, k = m + 1 := ⟨k - 1, by omega⟩
      by_cases hi2 : i < xs.length
      · rw [hstep k i hi2 (by omega)]
        exact ih k (i + 1) (by omega) (by omega) (by omega)
      · obtain rfl : i = xs.length := by omega
        exact hend k
  exact go xs.length k 0 (by omega) hk (by omega)
theorem gen_sz {α : Type} (L : Nat → List α → Int → Int → Option Int) (xs : List α) (P : α → Prop) (K : Nat)
    (hstep : ∀ (k i : Nat) (left : Int) (h : i < xs.length), 0 ≤ left → left ≤ 1048576 → K ≤ k → L (k + 1) xs left (i : Int) = some (-1) ∨ ∃ t, 0 ≤ t ∧ t ≤ left ∧ P xs[i] ∧ L (k + 1) xs left (i : Int) = L k xs t ((i + 1 : Nat) : Int))
    (hend : ∀ (k : Nat) (left : Int), L (k + 1) xs left (xs.length : Int) = some left) (k : Nat) (left : Int) (hk : K + xs.length < k) (h0 : 0 ≤ left) (h1 : left ≤ 1048576) :
    L k xs left 0 = some (-1) ∨ ∃ r, L k xs left 0 = some r ∧ 0 ≤ r ∧ r ≤ left ∧ ∀ y ∈ xs, P y := by
  have go : ∀ (d k i : Nat) (left : Int), xs.length - i ≤ d → K + d < k → i ≤ xs.length → 0 ≤ left → left ≤ 1048576 → L k xs left (i : Int) = some (-1) ∨ ∃ r, L k xs left (i : Int) = some r ∧ 0 ≤ r ∧ r ≤ left ∧ ∀ y ∈ xs.drop i, P y := by
    intro d
    induction d with
    | zero =>
      intro k i left hd hk hi h0 h1
      obtain ⟨k, rfl⟩ : ∃ m, k = m + 1 := ⟨k - 1, by omega⟩
      obtain rfl : i = xs.length := by omega
      exact .inr ⟨left, hend k left, h0, Int.le_refl _, by simp⟩
    | succ d ih =>
      intro k i left hd hk hi h0 h1
      obtain ⟨k, rfl⟩ : ∃ m, k = m + 1 := ⟨k - 1, by omega⟩
      by_cases hi2 : i < xs.length
      · rcases hstep k i left hi2 h0 h1 (by omega) with h | ⟨t, t0, t1, hp, h⟩
        · exact .inl h
        · rw [h]
          rcases ih k (i + 1) t (by omega) (by omega) (by omega) t0 (by omega) with h | ⟨r, hr, r0, r1, ha⟩
          · exact .inl h
          · refine .inr ⟨r, hr, r0, by omega, fun y hy => ?_⟩
            rw [drop_get xs i hi2, List.mem_cons] at hy
            rcases hy with rfl | hy
            · exact hp
            · exact ha y hy
      · obtain rfl : i = xs.length := by omega
        exact .inr ⟨left, hend k left, h0, Int.le_refl _, by simp⟩
  have := go xs.length k 0 left (by omega) hk (by omega) h0 h1
  simpa using this

/-! ### lawsInt -/
theorem rdInt (xs : List Int) (i : Nat) (h : i < xs.length) : rd xs (i : Int) = xs[i] := by simp [rd, List.getD, h]
theorem szIntS_is (xs : List Int) (hl : xs.length ≤ 9223372036854775807) (left : Int) (h0 : 0 ≤ left) (h1 : left ≤ 1048576) : laws_szIntS.f xs left = some (-1) ∨ ∃ t, laws_szIntS.f xs left = some t ∧ 0 ≤ t ∧ t ≤ left ∧ xs.length ≤ 1048576 := by
  unfold laws_szIntS.f
  rw [w64 (n := left - (xs.length : Int)) (by omega) (by omega)]
  by_cases h : left - (xs.length : Int) < 0
  · rw [if_pos h]; exact .inl rfl
  · rw [if_neg h]; exact .inr ⟨_, rfl, by omega, by omega, by omega⟩
theorem toIntS_is (xs : List Int) (hl : xs.length ≤ 1048576) (k : Nat) (hk : xs.length < k) : laws_toIntS.f k xs = some xs := by
  unfold laws_toIntS.f
  rw [if_pos (by omega), if_pos (by omega)]
  have h := gen_to (fun k x a i => laws_toIntS.l0 k x a i) id xs 0 (fun k i acc h ha _ => by
      show laws_toIntS.l0 (k + 1) xs acc (i : Int) = _
      rw [laws_toIntS.l0, if_pos (by omega), if_pos (by omega), if_pos (by omega), rdInt xs i h, w64_len h (by omega)]; rfl)
    (fun k acc => by show laws_toIntS.l0 (k + 1) xs acc _ = _; rw [laws_toIntS.l0, if_neg (by omega)]) k (List.replicate ((xs.length : Int)).toNat 0) (by omega) (by simp)
  rw [List.map_id] at h
  exact h
theorem eqIntS_self (xs : List Int) (hl : xs.length ≤ 9223372036854775807) (k : Nat) (hk : xs.length < k) : laws_eqIntS.f k xs xs = some true := by
  unfold laws_eqIntS.f
  rw [if_pos rfl]
  exact gen_eq (fun k x a i => laws_eqIntS.l0 k x a i) xs 0 (fun k i h _ => by
      show laws_eqIntS.l0 (k + 1) xs xs (i : Int) = _
      rw [laws_eqIntS.l0, if_pos (by omega), if_pos (by omega), if_pos (by omega), if_pos rfl, w64_len h hl])
    (fun k => by show laws_eqIntS.l0 (k + 1) xs xs _ = _; rw [laws_eqIntS.l0, if_neg (by omega)]) k (by omega)

/-! ### ev -/
theorem Ev.shift {α : Type} {g f : Nat → Option α} {r : α} (c : Nat) (h : ∀ k, g (k + c) = f k) (k : Ev f r) : Ev g r := by
  obtain ⟨K, k⟩ := k
  refine ⟨K + c, fun n hn => ?_⟩
  obtain ⟨m, rfl⟩ : ∃ m, n = m + c := ⟨n - c, by omega⟩
  rw [h]
  exact k m (by omega)
theorem Ev.from {α : Type} {g : Nat → Option α} {r : α} (B : Nat) (h : ∀ k, B < k → g k = some r) : Ev g r := ⟨B + 1, fun k hk => h k (by omega)⟩
theorem Ev.always {α : Type} {g : Nat → Option α} {r : α} (h : ∀ k, g k = some r) : Ev g r := ⟨0, fun k _ => h k⟩

/-! ### lawsExpr -/
/-! what the laws' own small functions tell of expressions -/
theorem rdEL (xs : List S126) (i : Nat) (h : i < xs.length) : rd_T126 xs (i : Int) = xs[i] := by simp [rd_T126, List.getD, h]
theorem rdEI (xs : List S34) (i : Nat) (h : i < xs.length) : rd_T34 xs (i : Int) = xs[i] := by simp [rd_T34, List.getD, h]
def smallE (y : S126) : Prop := y.f2.size ≤ 1048576 ∧ y.f3.length ≤ 1048576
theorem szExNode_is (y : S126) (h2 : y.f2.size ≤ 9223372036854775807) (h3 : y.f3.length ≤ 9223372036854775807) (left : Int) (h0 : 0 ≤ left) (h1 : left ≤ 1048576) :
    laws_szExNode.f y.f0 y.f1 y.f2 y.f3 left = some (-1) ∨ ∃ t, laws_szExNode.f y.f0 y.f1 y.f2 y.f3 left = some t ∧ 0 ≤ t ∧ t ≤ left ∧ smallE y := by
  unfold laws_szExNode.f
  rw [w64 (n := left - (y.f2.size : Int)) (by omega) (by omega)]
  by_cases h : left - (y.f2.size : Int) < 0
  · rw [if_pos h]; exact .inl rfl
  · rw [if_neg h]
    rcases szIntS_is y.f3 h3 (left - (y.f2.size : Int)) (by omega) (by omega) with e | ⟨t, e, t0, t1, l3⟩
    · rw [e, Option.bind_some, if_pos (by omega)]; exact .inl rfl
    · rw [e, Option.bind_some, if_neg (by omega)]; exact .inr ⟨t, rfl, t0, by omega, by unfold smallE; omega⟩
def szExprOk (xs : List S126) : Prop := xs.length ≤ 1048576 ∧ ∀ y ∈ xs, smallE y
theorem szExpr_is (xs : List S126) (hx : ∀ y ∈ xs, ok126 y) (hl : xs.length ≤ 9223372036854775807) (left : Int) (h0 : 0 ≤ left) (h1 : left ≤ 1048576) (k : Nat) (hk : xs.length < k) :
    laws_szExpr.f k xs left = some (-1) ∨ ∃ r, laws_szExpr.f k xs left = some r ∧ 0 ≤ r ∧ r ≤ left ∧ szExprOk xs := by
  unfold laws_szExpr.f laws_szExNodeS.f
  rw [w64 (n := left - (xs.length : Int)) (by omega) (by omega)]
  by_cases h2 : left - (xs.length : Int) < 0
  · rw [if_pos h2, Option.bind_some, if_pos (by omega)]; exact .inl rfl
  · rw [if_neg h2]
    have g := gen_sz (fun k x a i => laws_szExNodeS.l0 k x a i) xs smallE 0 (fun k i left h h0 h1 _ => by
        show laws_szExNodeS.l0 (k + 1) xs left (i : Int) = _ ∨ ∃ t, _ ∧ _ ∧ _ ∧ laws_szExNodeS.l0 (k + 1) xs left (i : Int) = laws_szExNodeS.l0 k xs t ((i + 1 : Nat) : Int)
        have ho := hx xs[i] (List.getElem_mem h)
        have m2 : xs[i].f2.size ≤ 9223372036854775807 := by have := ho.2.2.1; unfold maxLen at this; exact this
        have m3 : xs[i].f3.length ≤ 9223372036854775807 := by have := ho.2.2.2.2; unfold maxLen at this; exact this
        rw [laws_szExNodeS.l0, if_pos (by omega), if_pos (by omega), rdEL xs i h, w64_len h hl]
        rcases szExNode_is xs[i] m2 m3 left h0 h1 with e | ⟨t, e, t0, t1, p⟩
        · rw [e, Option.bind_some, if_pos (by omega)]; exact .inl rfl
        · rw [e, Option.bind_some, if_neg (by omega)]; exact .inr ⟨t, t0, t1, p, rfl⟩)
      (fun k left => by show laws_szExNodeS.l0 (k + 1) xs left _ = _; rw [laws_szExNodeS.l0, if_neg (by omega)]) k (left - (xs.length : Int)) (by omega) (by omega) (by omega)
    rcases g with g | ⟨r, g, r0, r1, ha⟩
    · rw [show laws_szExNodeS.l0 k xs (left - (xs.length : Int)) 0 = some (-1) from g, Option.bind_some, if_pos (by omega)]; exact .inl rfl
    · rw [show laws_szExNodeS.l0 k xs (left - (xs.length : Int)) 0 = some r from g, Option.bind_some, if_neg (by omega)]; exact .inr ⟨r, rfl, r0, by omega, by omega, ha⟩
theorem szExpr_ev (xs : List S126) (hx : ∀ y ∈ xs, ok126 y) (hl : xs.length ≤ 9223372036854775807) (left : Int) (h0 : 0 ≤ left) (h1 : left ≤ 1048576) :
    ∃ r, Ev (fun k => laws_szExpr.f k xs left) r ∧ (0 ≤ r → r ≤ left ∧ szExprOk xs) := by
  rcases szExpr_is xs hx hl left h0 h1 (xs.length + 1) (by omega) with e | ⟨r, e, r0, r1, hz⟩
  · exact ⟨-1, Ev.of (laws_szExpr.mono xs left) e, fun h => absurd h (by omega)⟩
  · exact ⟨r, Ev.of (laws_szExpr.mono xs left) e, fun _ => ⟨r1, hz⟩⟩
def toEN (x : S126) : S34 := ⟨x.f0, x.f1, x.f2, x.f3⟩
theorem toExpr_is (xs : List S126) (hz : szExprOk xs) (k : Nat) (hk : 1048577 + xs.length < k) : laws_toExpr.f k xs = some (xs.map toEN) := by
  obtain ⟨hl, ha⟩ := hz
  unfold laws_toExpr.f laws_toExNodeS.f
  rw [if_pos (by omega), if_pos (by omega)]
  have h := gen_to (fun k x a i => laws_toExNodeS.l0 k x a i) toEN xs 1048577 (fun k i acc h hacc hk => by
      show laws_toExNodeS.l0 (k + 1) xs acc (i : Int) = _
      have p := (ha xs[i] (List.getElem_mem h)).2
      rw [laws_toExNodeS.l0, if_pos (by omega), if_pos (by omega), rdEL xs i h, w64_len h (by omega)]
      unfold laws_toExNode.f
      rw [toIntS_is _ p k (by omega), Option.bind_some, Option.bind_some, if_pos (by omega)]
      rfl)
    (fun k acc => by show laws_toExNodeS.l0 (k + 1) xs acc _ = _; rw [laws_toExNodeS.l0, if_neg (by omega)]) k (List.replicate ((xs.length : Int)).toNat z34) hk (by simp)
  rw [show laws_toExNodeS.l0 k xs (List.replicate ((xs.length : Int)).toNat z34) 0 = _ from h]; rfl
def smallEI (xs : List S34) : Prop := xs.length ≤ 1048576 ∧ ∀ y ∈ xs, y.f2.size ≤ 1048576 ∧ y.f3.length ≤ 1048576
theorem smallEI_of {xs : List S126} (h : szExprOk xs) : smallEI (xs.map toEN) := by
  refine ⟨by rw [List.length_map]; exact h.1, fun y hy => ?_⟩
  obtain ⟨x, hx, rfl⟩ := List.mem_map.1 hy
  exact h.2 x hx
theorem eqExpr_self (xs : List S34) (hz : smallEI xs) (k : Nat) (hk : 1048577 + xs.length < k) : laws_eqExpr.f k xs xs = some true := by
  unfold laws_eqExpr.f laws_eqExNodeS.f
  rw [if_pos rfl]
  have h := gen_eq (fun k x a i => laws_eqExNodeS.l0 k x a i) xs 1048577 (fun k i h hk => by
      show laws_eqExNodeS.l0 (k + 1) xs xs (i : Int) = _
      have p := (hz.2 xs[i] (List.getElem_mem h)).2
      have hl := hz.1
      rw [laws_eqExNodeS.l0, if_pos (by omega), if_pos (by omega), if_pos (by omega), rdEI xs i h, w64_len h (by omega)]
      unfold laws_eqExNode.f
      rw [if_pos (show xs[i].f0 = xs[i].f0 from rfl), if_pos (show xs[i].f1 = xs[i].f1 from rfl), if_pos (show xs[i].f2.toList = xs[i].f2.toList from rfl), eqIntS_self _ (by omega) k (by omega), Option.bind_some, if_pos (show true = true from rfl), Option.bind_some, if_pos (show true = true from rfl)])
    (fun k => by show laws_eqExNodeS.l0 (k + 1) xs xs _ = _; rw [laws_eqExNodeS.l0, if_neg (by omega)]) k (by omega)
  rw [show laws_eqExNodeS.l0 k xs xs 0 = _ from h]
  rfl

/-! ### lawsVar -/
/-! what the laws' own small functions tell of names and numbers -/
theorem rdL (xs : List S98) (i : Nat) (h : i < xs.length) : rd_T98 xs (i : Int) = xs[i] := by simp [rd_T98, List.getD, h]
theorem rdI (xs : List S87) (i : Nat) (h : i < xs.length) : rd_T87 xs (i : Int) = xs[i] := by simp [rd_T87, List.getD, h]
def szOk (xs : List S98) : Prop := xs.length ≤ 1048576 ∧ ∀ y ∈ xs, y.f0.size ≤ 1048576
theorem szVarS_l0 (xs : List S98) (hx : ∀ y ∈ xs, ok98 y) (hl : xs.length ≤ 9223372036854775807) (d : Nat) : ∀ (k i : Nat) (left : Int), xs.length - i ≤ d → d < k → 0 ≤ left → left ≤ 1048576 →
    ∃ r, laws_szVarS.l0 k xs left (i : Int) = some r ∧ (0 ≤ r → r ≤ 1048576 ∧ ∀ y ∈ xs.drop i, y.f0.size ≤ 1048576) := by
  induction d with
  | zero =>
    intro k i left hd hk h0 h1
    obtain ⟨k, rfl⟩ : ∃ m, k = m + 1 := ⟨k - 1, by omega⟩
    refine ⟨left, ?_, fun _ => ⟨h1, ?_⟩⟩
    · rw [laws_szVarS.l0, if_neg (by omega)]
    · rw [List.drop_eq_nil_of_le (by omega)]; simp
  | succ d ih =>
    intro k i left hd hk h0 h1
    obtain ⟨k, rfl⟩ : ∃ m, k = m + 1 := ⟨k - 1, by omega⟩
    by_cases hi : i < xs.length
    · have hs : xs[i].f0.size ≤ 9223372036854775807 := by have := (hx xs[i] (List.getElem_mem hi)).1; unfold maxLen at this; exact this
      rw [laws_szVarS.l0, if_pos (by omega), if_pos (by omega), rdL xs i hi, w64_len hi hl]
      unfold laws_szVar.f
      rw [w64 (n := left - (xs[i].f0.size : Int)) (by omega) (by omega)]
      by_cases h2 : left - (xs[i].f0.size : Int) < 0
      · rw [if_pos h2, Option.bind_some, if_pos (by omega)]
        exact ⟨-1, rfl, fun h => absurd h (by omega)⟩
      · rw [if_neg h2, Option.bind_some, if_neg h2]
        obtain ⟨r, hr, hp⟩ := ih k (i + 1) (left - (xs[i].f0.size : Int)) (by omega) (by omega) (by omega) (by omega)
        refine ⟨r, hr, fun h => ?_⟩
        obtain ⟨p1, p2⟩ := hp h
        refine ⟨p1, fun y hy => ?_⟩
        rw [drop_get xs i hi, List.mem_cons] at hy
        rcases hy with rfl | hy
        · omega
        · exact p2 y hy
    · refine ⟨left, ?_, fun _ => ⟨h1, ?_⟩⟩
      · rw [laws_szVarS.l0, if_neg (by omega)]
      · rw [List.drop_eq_nil_of_le (by omega)]; simp
theorem szVarS_is (xs : List S98) (hx : ∀ y ∈ xs, ok98 y) (hl : xs.length ≤ 9223372036854775807) (left : Int) (h0 : 0 ≤ left) (h1 : left ≤ 1048576) (k : Nat) (hk : xs.length < k) :
    ∃ r, laws_szVarS.f k xs left = some r ∧ (0 ≤ r → r ≤ 1048576 ∧ szOk xs) := by
  unfold laws_szVarS.f
  rw [w64 (n := left - (xs.length : Int)) (by omega) (by omega)]
  by_cases h2 : left - (xs.length : Int) < 0
  · rw [if_pos h2]; exact ⟨-1, rfl, fun h => absurd h (by omega)⟩
  · rw [if_neg h2]
    obtain ⟨r, hr, hp⟩ := szVarS_l0 xs hx hl xs.length k 0 (left - (xs.length : Int)) (by omega) hk (by omega) (by omega)
    refine ⟨r, hr, fun h => ?_⟩
    obtain ⟨p1, p2⟩ := hp h
    exact ⟨p1, by omega, by simpa using p2⟩
/-- A name and its number, as the program has them. -/
def toV (x : S98) : S87 := ⟨x.f0, x.f1⟩
theorem toVarS_l0 (xs : List S98) (hl : xs.length ≤ 1048576) (d : Nat) : ∀ (k i : Nat) (acc : List S87), xs.length - i ≤ d → d < k → i ≤ xs.length → acc.length = xs.length → acc.take i = (xs.take i).map toV →
    laws_toVarS.l0 k xs acc (i : Int) = some (xs.map toV) := by
  induction d with
  | zero =>
    intro k i acc hd hk hi ha ht
    obtain ⟨k, rfl⟩ : ∃ m, k = m + 1 := ⟨k - 1, by omega⟩
    rw [laws_toVarS.l0, if_neg (by omega)]
    rw [show i = xs.length from by omega, List.take_length, ← ha, List.take_length] at ht
    rw [ht]
  | succ d ih =>
    intro k i acc hd hk hi ha ht
    obtain ⟨k, rfl⟩ : ∃ m, k = m + 1 := ⟨k - 1, by omega⟩
    by_cases hi2 : i < xs.length
    · rw [laws_toVarS.l0, if_pos (by omega), if_pos (by omega), rdL xs i hi2]
      unfold laws_toVar.f
      rw [Option.bind_some, if_pos (by omega), w64_len hi2 (by omega), show ((i : Int)).toNat = i from by omega]
      refine ih k (i + 1) _ (by omega) (by omega) (by omega) (by rw [List.length_set]; exact ha) ?_
      rw [take_set acc i _ (by omega), ht, List.take_add_one, List.getElem?_eq_getElem hi2, List.map_append]
      rfl
    · rw [laws_toVarS.l0, if_neg (by omega)]
      rw [show i = xs.length from by omega, List.take_length, ← ha, List.take_length] at ht
      rw [ht]
theorem toVarS_is (xs : List S98) (hl : xs.length ≤ 1048576) (k : Nat) (hk : xs.length < k) : laws_toVarS.f k xs = some (xs.map toV) := by
  unfold laws_toVarS.f
  rw [if_pos (by omega), if_pos (by omega)]
  exact toVarS_l0 xs hl xs.length k 0 _ (by omega) hk (by omega) (by simp) (by simp)
theorem eqVarS_l0 (xs : List S87) (hl : xs.length ≤ 9223372036854775807) (d : Nat) : ∀ (k i : Nat), xs.length - i ≤ d → d < k → laws_eqVarS.l0 k xs xs (i : Int) = some true := by
  induction d with
  | zero =>
    intro k i hd hk
    obtain ⟨k, rfl⟩ : ∃ m, k = m + 1 := ⟨k - 1, by omega⟩
    rw [laws_eqVarS.l0, if_neg (by omega)]
  | succ d ih =>
    intro k i hd hk
    obtain ⟨k, rfl⟩ : ∃ m, k = m + 1 := ⟨k - 1, by omega⟩
    by_cases hi : i < xs.length
    · rw [laws_eqVarS.l0, if_pos (by omega), if_pos (by omega), if_pos (by omega)]
      unfold laws_eqVar.f
      simp only [if_true, Option.bind_some]
      rw [w64_len hi hl]
      exact ih k (i + 1) (by omega) (by omega)
    · rw [laws_eqVarS.l0, if_neg (by omega)]
theorem eqVarS_self (xs : List S87) (hl : xs.length ≤ 9223372036854775807) (k : Nat) (hk : xs.length < k) : laws_eqVarS.f k xs xs = some true := by
  unfold laws_eqVarS.f
  rw [if_pos rfl]
  exact eqVarS_l0 xs hl xs.length k 0 (by omega) hk

/-! ### varNameB -/
/-- 1 to 4 letters a-z. -/
def small (c : Int) : Bool := decide (97 ≤ c ∧ c ≤ 122)
def varNameB (s : ByteArray) : Bool := (bs s).all small && decide (1 ≤ (s.size : Int) ∧ (s.size : Int) ≤ 4)

/-! ### within -/
theorem within_is (a b c : Int) : impl_within.f a b c = some (decide (b ≤ a ∧ a ≤ c)) := by
  unfold impl_within.f
  by_cases h : a ≥ b
  · rw [if_pos h]; simp [show b ≤ a from h]
  · rw [if_neg h]; simp [show ¬ b ≤ a from h]

/-! ### kidsAhead -/
def kidIn (i : Nat) (c : Int) : Bool := decide (0 ≤ c ∧ c ≤ (i : Int) - 1)
def kidsIn (i : Nat) (ks : List Int) : Bool := ks.all (kidIn i)
theorem kidsIn_cons (i : Nat) (c : Int) (ks : List Int) : kidsIn i (c :: ks) = (kidIn i c && kidsIn i ks) := by simp [kidsIn]
theorem implKidsAhead_is (ks : List Int) (hl : ks.length ≤ 1048576) (i : Nat) (hi : i ≤ 9223372036854775807) (k : Nat) (hk : ks.length < k) : impl_kidsAhead.f k ks (i : Int) = some (kidsIn i ks) := by
  have go : ∀ (d k j : Nat), ks.length - j ≤ d → d < k → impl_kidsAhead.l0 k (i : Int) ks (ks.length : Int) (j : Int) = some (kidsIn i (ks.drop j)) := by
    intro d
    induction d with
    | zero =>
      intro k j hd hk
      obtain ⟨k, rfl⟩ : ∃ m, k = m + 1 := ⟨k - 1, by omega⟩
      rw [impl_kidsAhead.l0, if_neg (by omega), List.drop_eq_nil_of_le (by omega)]; rfl
    | succ d ih =>
      intro k j hd hk
      obtain ⟨k, rfl⟩ : ∃ m, k = m + 1 := ⟨k - 1, by omega⟩
      by_cases hj : j < ks.length
      · rw [impl_kidsAhead.l0, if_pos (by omega), if_pos (by omega), if_pos (by omega), rdInt ks j hj, within_is, Option.bind_some, w64 (n := (i : Int) - 1) (by omega) (by omega), w64_len hj (by omega), ih k (j + 1) (by omega) (by omega), drop_get ks j hj, kidsIn_cons]
        rw [show decide (0 ≤ ks[j] ∧ ks[j] ≤ (i : Int) - 1) = kidIn i ks[j] from rfl]
        by_cases hc : kidIn i ks[j] = true
        · rw [if_pos hc, hc, Bool.true_and]
        · rw [if_neg hc, show kidIn i ks[j] = false from by simpa using hc, Bool.false_and]
      · rw [impl_kidsAhead.l0, if_neg (by omega), List.drop_eq_nil_of_le (by omega)]; rfl
  unfold impl_kidsAhead.f
  exact go ks.length k 0 (by omega) hk

/-! ### exprOk -/
theorem rdE (xs : List S34) (i : Nat) (h : i < xs.length) : rd_T34 xs (i : Int) = xs[i] := by simp [rd_T34, List.getD, h]
def kidsOf (op : Int) : Int := if op = 1 ∨ op = 2 ∨ op = 3 then 0 else if op = 11 then 1 else 2
def numOk (op num : Int) : Bool := if op = 1 then decide (0 ≤ num ∧ num ≤ 99) else decide (num = 0)
def nameOk (op : Int) (s : ByteArray) : Bool := if op = 2 then varNameB s else decide (s.toList = ([] : List UInt8))
/-- A node is right at its place. -/
def nodeB (i : Nat) (y : S34) : Bool := decide (1 ≤ y.f0 ∧ y.f0 ≤ 11) && decide ((y.f3.length : Int) = kidsOf y.f0) && numOk y.f0 y.f1 && nameOk y.f0 y.f2 && kidsIn i y.f3
def nodesB : Nat → List S34 → Bool
  | _, [] => true
  | i, y :: l => nodeB i y && nodesB (i + 1) l
/-- An expression is right. -/
def exprOkB (xs : List S34) : Bool := nodesB 0 xs && decide (1 ≤ (xs.length : Int) ∧ (xs.length : Int) ≤ 20)
def smallX (xs : List S34) : Prop := xs.length ≤ 1048576 ∧ ∀ y ∈ xs, y.f2.size ≤ 1048576 ∧ y.f3.length ≤ 1048576
theorem bne_nil (s : ByteArray) : (s.toList != ([] : List UInt8)) = !decide (s.toList = ([] : List UInt8)) := by
  cases h : s.toList <;> simp

/-! ### envGet -/
theorem rdI' (xs : List S87) (i : Nat) (h : i < xs.length) : rd_T87 xs (i : Int) = xs[i] := by simp [rd_T87, List.getD, h]
/-- Its number, and true; false without one. -/
def envGetL (s : ByteArray) : List S87 → Int × Bool
  | [] => (0, false)
  | v :: l => if v.f0 = s then (v.f1, true) else envGetL s l

/-! ### isNumB -/
def numB (n : Int) : Bool := decide (-9999 ≤ n ∧ n ≤ 9999)

/-! ### evalR -/
def rdB (m : List Bool) (i : Int) : Bool := rdOf false m i
/-- What is below a node that is marked is marked. -/
def markKids (m : List Bool) (ks : List Int) : List Bool := ks.foldl (fun m c => m.set c.toNat true) m
theorem markKids_length (ks : List Int) : ∀ m : List Bool, (markKids m ks).length = m.length := by
  induction ks with
  | nil => intro m; rfl
  | cons c ks ih => intro m; show (markKids (m.set c.toNat true) ks).length = _; rw [ih, List.length_set]
def markStep (xs : List S34) (m : List Bool) (i : Nat) : List Bool := if rdB m (i : Int) then markKids m (xs.getD i z34).f3 else m
theorem markStep_length (xs : List S34) (m : List Bool) (i : Nat) : (markStep xs m i).length = m.length := by
  unfold markStep; split
  · exact markKids_length _ _
  · rfl
/-- The marks, once the nodes from n - 1 down to 0 have been looked at. -/
def marksGo (xs : List S34) : Nat → List Bool → List Bool
  | 0, m => m
  | n + 1, m => marksGo xs n (markStep xs m n)
theorem marksGo_length (xs : List S34) (n : Nat) : ∀ m : List Bool, (marksGo xs n m).length = m.length := by
  induction n with
  | zero => intro m; rfl
  | succ n ih => intro m; show (marksGo xs n (markStep xs m n)).length = _; rw [ih, markStep_length]
/-- The nodes that are the whole, or below it. -/
def marksR (xs : List S34) : List Bool := marksGo xs xs.length ((List.replicate xs.length false).set (xs.length - 1) true)
theorem marksR_length (xs : List S34) : (marksR xs).length = xs.length := by unfold marksR; rw [marksGo_length]; simp
def flagR (b : Bool) : Int := if b then 1 else 0
/-- What comes of two numbers. -/
def reckonR (op a b : Int) : Int × Bool :=
  if op = 4 then (wrap64 (a + b), true) else if op = 5 then (wrap64 (a - b), true) else if op = 6 then (wrap64 (a * b), true)
  else if op = 8 then (flagR (decide (a < b)), true) else if op = 9 then (flagR (a == b), true) else if op = 10 then (flagR (a != 0 && b != 0), true)
  else if op = 11 then (flagR (a == 0), true) else if b = 0 then (0, false) else (wrap64 (Int.tdiv a b), true)
/-- The number of a node by those of the nodes ahead. -/
def nodeVal (env : List S87) (here : Int) (nums : List Int) (y : S34) : Int × Bool :=
  if y.f0 = 1 then (y.f1, true) else if y.f0 = 2 then envGetL y.f2 env else if y.f0 = 3 then (here, true)
  else reckonR y.f0 (rd nums (rd y.f3 0)) (rd nums (rd y.f3 ((y.f3.length : Int) - 1)))
def evalGo (env : List S87) (here : Int) (m : List Bool) : Nat → List Int → List S34 → Int × Bool
  | _, nums, [] => (rd nums ((nums.length : Int) - 1), true)
  | i, nums, y :: l => if rdB m (i : Int) then (if (nodeVal env here nums y).2 && numB (nodeVal env here nums y).1 then evalGo env here m (i + 1) (nums.set i (nodeVal env here nums y).1) l else (0, false)) else evalGo env here m (i + 1) nums l
/-- What an expression is. -/
def evalR (xs : List S34) (env : List S87) (here : Int) : Int × Bool :=
  if exprOkB xs then evalGo env here (marksR xs) 0 (List.replicate xs.length 0) xs else (0, false)
theorem nodesB_at (xs : List S34) : ∀ (j : Nat), nodesB j xs = true → ∀ (i : Nat) (h : i < xs.length), nodeB (j + i) xs[i] = true := by
  induction xs with
  | nil => intro j _ i h; simp at h
  | cons y l ih =>
    intro j hn i h
    have hn2 : nodeB j y = true ∧ nodesB (j + 1) l = true := by simpa [nodesB] using hn
    cases i with
    | zero => exact hn2.1
    | succ i =>
      have := ih (j + 1) hn2.2 i (by simpa using h)
      rw [show j + (i + 1) = j + 1 + i from by omega]
      simpa using this
/-- What is known of a node of a right expression. -/
theorem node_facts {xs : List S34} (ho : exprOkB xs = true) (i : Nat) (h : i < xs.length) : (1 ≤ xs[i].f0 ∧ xs[i].f0 ≤ 11) ∧ (xs[i].f3.length : Int) = kidsOf xs[i].f0 ∧ ∀ c ∈ xs[i].f3, 0 ≤ c ∧ c < (i : Int) := by
  have h1 : nodesB 0 xs = true := by
    unfold exprOkB at ho
    rw [Bool.and_eq_true] at ho
    exact ho.1
  have h2 := nodesB_at xs 0 h1 i h
  rw [Nat.zero_add] at h2
  unfold nodeB at h2
  simp only [Bool.and_eq_true, decide_eq_true_eq] at h2
  obtain ⟨⟨⟨⟨a, b⟩, _⟩, _⟩, d⟩ := h2
  refine ⟨a, b, fun c hc => ?_⟩
  have := List.all_eq_true.1 d c hc
  have : 0 ≤ c ∧ c ≤ (i : Int) - 1 := by simpa [kidIn] using this
  omega
theorem expr_pos {xs : List S34} (ho : exprOkB xs = true) : 1 ≤ xs.length ∧ xs.length ≤ 20 := by
  unfold exprOkB at ho
  rw [Bool.and_eq_true, decide_eq_true_eq] at ho
  omega
theorem rdB_at (m : List Bool) (i : Nat) (h : i < m.length) : rdB m (i : Int) = m[i] := by simp [rdB, rdOf, List.getD, h]
theorem rdB_set_ne (m : List Bool) (i j : Nat) (v : Bool) (h : i ≠ j) : rdB (m.set j v) (i : Int) = rdB m (i : Int) := by
  simp [rdB, rdOf, List.getD, List.getElem?_set_ne (Ne.symm h)]
theorem rd_in (ks : List Int) (c : Int) (h0 : 0 ≤ c) (h1 : c < ks.length) : rd ks c ∈ ks := by
  obtain ⟨n, rfl⟩ := Int.eq_ofNat_of_zero_le h0
  rw [rdInt ks n (by omega)]
  exact List.getElem_mem _

/-! ### l01In -/
theorem l01In_is (a b c : Int) : spec_l01In.f a b c = some (decide (b ≤ a ∧ a ≤ c)) := by
  unfold spec_l01In.f
  by_cases h : a ≥ b
  · rw [if_pos h]; simp [show b ≤ a from h]
  · rw [if_neg h]; simp [show ¬ b ≤ a from h]

/-! ### specVarName -/
theorem specVarName_l0 (s : ByteArray) (hs : s.size ≤ 140737488351232) (d : Nat) : ∀ (k i : Nat), s.size - i ≤ d → d < k →
    spec_VarName.l0 k s (i : Int) = some (((bs s).drop i).all small && decide (1 ≤ (s.size : Int) ∧ (s.size : Int) ≤ 4)) := by
  induction d with
  | zero =>
    intro k i hd hk
    obtain ⟨k, rfl⟩ : ∃ m, k = m + 1 := ⟨k - 1, by omega⟩
    simp only [spec_VarName.l0]
    rw [if_neg (by omega), l01In_is, bs_drop_nil s i (by omega)]; simp
  | succ d ih =>
    intro k i hd hk
    obtain ⟨k, rfl⟩ : ∃ m, k = m + 1 := ⟨k - 1, by omega⟩
    by_cases hi : i < s.size
    · have e := ih k (i + 1) (by omega) (by omega)
      simp only [spec_VarName.l0]
      rw [if_pos (by omega), if_pos (by omega), w64_succ hi hs, e, bs_drop s i hi]
      simp only [List.all_cons]
      by_cases h1 : bt s i < 97
      · rw [if_pos h1, show small (bt s i) = false from by simp [small]; omega]; simp
      · by_cases h2 : bt s i > 122
        · rw [if_neg h1, if_pos h2, show small (bt s i) = false from by simp [small]; omega]; simp
        · rw [if_neg h1, if_neg h2, show small (bt s i) = true from by simp [small]; omega]; simp
    · simp only [spec_VarName.l0]
      rw [if_neg (by omega), l01In_is, bs_drop_nil s i (by omega)]; simp
theorem specVarName_is (s : ByteArray) (hs : s.size ≤ 140737488351232) (k : Nat) (hk : s.size < k) : spec_VarName.f k s = some (varNameB s) := by
  unfold spec_VarName.f
  exact specVarName_l0 s hs s.size k 0 (by omega) hk

/-! ### specExprOk -/
section
variable (xs : List S34) (hz : smallX xs) (i : Nat) (hi : i < xs.length) (op num : Int) (s : ByteArray) (hs : s.size ≤ 1048576) (ks : List Int) (hk : ks.length ≤ 1048576) (r : Bool)
theorem specExpr_l1 (hi : i < 9223372036854775807) (hk : ks.length ≤ 1048576) (hn : Ev (fun k => spec_ExprOk.l0 k (wrap64 ((i : Int) + 1)) xs) r) (d : Nat) : ∀ j : Nat, ks.length - j = d → j ≤ ks.length →
    Ev (fun k => spec_ExprOk.l1 k (i : Int) (j : Int) xs op num s ks) (if kidsIn i (ks.drop j) then r else false) := by
  induction d with
  | zero =>
    intro j hd hj
    rw [List.drop_eq_nil_of_le (show ks.length ≤ j by omega), if_pos (by rfl)]
    refine Ev.shift 1 (fun k => ?_) hn
    rw [spec_ExprOk.l1, if_neg (by omega)]
  | succ d ih =>
    intro j hd hj
    have hj2 : j < ks.length := by omega
    have e := ih (j + 1) (by omega) (by omega)
    rw [drop_get ks j hj2, kidsIn_cons]
    by_cases hc : kidIn i ks[j] = true
    · rw [hc, Bool.true_and]
      refine Ev.shift 1 (fun k => ?_) e
      have hc2 : decide (0 ≤ ks[j] ∧ ks[j] ≤ (i : Int) - 1) = true := hc
      rw [spec_ExprOk.l1, if_pos (by omega), if_pos (by omega), rdInt ks j hj2, l01In_is, Option.bind_some, w64 (n := (i : Int) - 1) (by omega) (by omega), hc2, if_pos (show true = true from rfl), w64_len hj2 (by omega)]
    · have hc' : kidIn i ks[j] = false := by simpa using hc
      rw [hc', Bool.false_and, if_neg (by simp)]
      refine Ev.shift 1 (f := fun _ => some false) (fun k => ?_) (Ev.now _)
      have hc2 : decide (0 ≤ ks[j] ∧ ks[j] ≤ (i : Int) - 1) = false := hc'
      rw [spec_ExprOk.l1, if_pos (by omega), if_pos (by omega), rdInt ks j hj2, l01In_is, Option.bind_some, w64 (n := (i : Int) - 1) (by omega) (by omega), hc2, if_neg (by simp)]
theorem specExpr_j2 (hi : i < 9223372036854775807) (hk : ks.length ≤ 1048576) (hn : Ev (fun k => spec_ExprOk.l0 k (wrap64 ((i : Int) + 1)) xs) r) (b : Bool) :
    Ev (fun k => spec_ExprOk.j2 k (i : Int) b xs op num s ks) (if !b && kidsIn i ks then r else false) := by
  cases b with
  | true =>
    refine Ev.shift 1 (f := fun _ => some false) (fun k => ?_) (Ev.now _)
    rw [spec_ExprOk.j2, if_pos (show true = true from rfl)]
  | false =>
    have e := specExpr_l1 xs i op num s ks r hi hk hn ks.length 0 (by omega) (by omega)
    rw [List.drop_zero] at e
    refine Ev.shift 1 (fun k => ?_) e
    rw [spec_ExprOk.j2, if_neg (by simp)]; rfl
theorem specExpr_j1 (hi : i < 9223372036854775807) (hk : ks.length ≤ 1048576) (hs : s.size ≤ 1048576) (hn : Ev (fun k => spec_ExprOk.l0 k (wrap64 ((i : Int) + 1)) xs) r) (b : Bool) :
    Ev (fun k => spec_ExprOk.j1 k (i : Int) b xs op num s ks) (if !b && numOk op num && nameOk op s && kidsIn i ks then r else false) := by
  have J := specExpr_j2 xs i op num s ks r hi hk hn
  have hv : Ev (fun k => spec_VarName.f k s) (varNameB s) := Ev.from s.size (fun k hk => specVarName_is s (by omega) k hk)
  cases b with
  | true =>
    refine Ev.shift 1 (f := fun _ => some false) (fun k => ?_) (Ev.now _)
    rw [spec_ExprOk.j1, if_pos (show true = true from rfl)]
  | false =>
    have name : ∀ c : Bool, c = true → Ev (fun k => if op = 2 then ((spec_VarName.f k s).bind fun t => (if t = true then spec_ExprOk.j2 k (i : Int) false xs op num s ks else spec_ExprOk.j2 k (i : Int) true xs op num s ks)) else spec_ExprOk.j2 k (i : Int) (s.toList != ([] : List UInt8)) xs op num s ks) (if nameOk op s && kidsIn i ks then r else false) := by
      intro _ _
      by_cases h2 : op = 2
      · refine Ev.congr (fun k => if_pos h2) (Ev.bind hv ?_)
        have hnm : nameOk op s = varNameB s := by unfold nameOk; rw [if_pos h2]
        rw [hnm]
        by_cases hb : varNameB s = true
        · rw [hb]; exact Ev.congr (fun k => if_pos rfl) (J false)
        · rw [show varNameB s = false from by simpa using hb]; exact Ev.congr (fun k => if_neg (by simp)) (J true)
      · refine Ev.congr (fun k => if_neg h2) ?_
        have hnm : nameOk op s = !(s.toList != ([] : List UInt8)) := by unfold nameOk; rw [if_neg h2, bne_nil, Bool.not_not]
        rw [hnm]
        exact J _
    by_cases h1 : op = 1
    · have hnum : numOk op num = decide (0 ≤ num ∧ num ≤ 99) := by unfold numOk; rw [if_pos h1]
      refine Ev.shift 1 (f := fun k => (spec_l01In.f num 0 99).bind fun t => (if t = true then (if op = 2 then ((spec_VarName.f k s).bind fun t => (if t = true then spec_ExprOk.j2 k (i : Int) false xs op num s ks else spec_ExprOk.j2 k (i : Int) true xs op num s ks)) else spec_ExprOk.j2 k (i : Int) (s.toList != ([] : List UInt8)) xs op num s ks) else spec_ExprOk.j2 k (i : Int) true xs op num s ks)) (fun k => ?_) ?_
      · rw [spec_ExprOk.j1, if_neg (by simp), if_pos h1]
      · rw [l01In_is, hnum]
        simp only [Option.bind_some, Bool.not_false, Bool.true_and]
        by_cases hb : decide (0 ≤ num ∧ num ≤ 99) = true
        · rw [hb]; exact Ev.congr (fun k => if_pos rfl) (name true rfl)
        · rw [show decide (0 ≤ num ∧ num ≤ 99) = false from by simpa using hb]; exact Ev.congr (fun k => if_neg (by simp)) (J true)
    · have hnum : numOk op num = decide (num = 0) := by unfold numOk; rw [if_neg h1]
      by_cases h0 : num = 0
      · refine Ev.shift 1 (f := fun k => if op = 2 then ((spec_VarName.f k s).bind fun t => (if t = true then spec_ExprOk.j2 k (i : Int) false xs op num s ks else spec_ExprOk.j2 k (i : Int) true xs op num s ks)) else spec_ExprOk.j2 k (i : Int) (s.toList != ([] : List UInt8)) xs op num s ks) (fun k => ?_) ?_
        · rw [spec_ExprOk.j1, if_neg (by simp), if_neg h1, if_pos h0]
        · rw [hnum, show decide (num = 0) = true from decide_eq_true h0]
          exact name true rfl
      · refine Ev.shift 1 (f := fun k => spec_ExprOk.j2 k (i : Int) true xs op num s ks) (fun k => ?_) ?_
        · rw [spec_ExprOk.j1, if_neg (by simp), if_neg h1, if_neg h0]
        · rw [hnum, show decide (num = 0) = false from decide_eq_false h0]
          exact J true
end
theorem specKids_ev (op : Int) : Ev (fun k => spec_l04Kids.f k op) (kidsOf op) := by
  have j : ∀ b : Bool, Ev (fun k => spec_l04Kids.j0 k op b) (if b then 0 else if op = 11 then 1 else 2) := by
    intro b
    refine Ev.shift 1 (f := fun _ => some (if b then 0 else if op = 11 then 1 else 2)) (fun k => ?_) (Ev.now _)
    rw [spec_l04Kids.j0]
    cases b <;> simp
    split <;> rfl
  unfold spec_l04Kids.f kidsOf
  by_cases h1 : op = 1
  · rw [if_pos (.inl h1)]
    have e := j (op == 1)
    rw [show (op == 1) = true from by simpa using h1] at e
    exact Ev.congr (fun k => by rw [if_pos h1, show (op == 1) = true from by simpa using h1]) e
  · by_cases h2 : op = 2
    · rw [if_pos (.inr (.inl h2))]
      have e := j (op == 2)
      rw [show (op == 2) = true from by simpa using h2] at e
      exact Ev.congr (fun k => by rw [if_neg h1, if_pos h2, show (op == 2) = true from by simpa using h2]) e
    · by_cases h3 : op = 3
      · rw [if_pos (.inr (.inr h3))]
        have e := j (op == 3)
        rw [show (op == 3) = true from by simpa using h3] at e
        exact Ev.congr (fun k => by rw [if_neg h1, if_neg h2, show (op == 3) = true from by simpa using h3]) e
      · rw [if_neg (by rintro (h | h | h) <;> contradiction)]
        have e := j (op == 3)
        rw [show (op == 3) = false from by simpa using h3] at e
        exact Ev.congr (fun k => by rw [if_neg h1, if_neg h2, show (op == 3) = false from by simpa using h3]) e
theorem specExpr_l0 (xs : List S34) (hz : smallX xs) (d : Nat) : ∀ i : Nat, xs.length - i = d → i ≤ xs.length →
    Ev (fun k => spec_ExprOk.l0 k (i : Int) xs) (nodesB i (xs.drop i) && decide (1 ≤ (xs.length : Int) ∧ (xs.length : Int) ≤ 20)) := by
  have hl := hz.1
  induction d with
  | zero =>
    intro i hd hi
    refine Ev.shift 1 (f := fun _ => some _) (fun k => ?_) (Ev.now _)
    rw [spec_ExprOk.l0, if_neg (by omega), List.drop_eq_nil_of_le (by omega), l01In_is]; rfl
  | succ d ih =>
    intro i hd hi
    have hi2 : i < xs.length := by omega
    have e := ih (i + 1) (by omega) (by omega)
    have hy := hz.2 _ (List.getElem_mem hi2)
    rw [← w64_len hi2 (by omega)] at e
    have J := specExpr_j1 xs i xs[i].f0 xs[i].f1 xs[i].f2 xs[i].f3 _ (by omega) hy.2 hy.1 e
    rw [drop_get xs i hi2]
    refine Ev.shift 1 (f := fun k => (spec_l01In.f xs[i].f0 1 11).bind fun t => (if t = true then ((spec_l04Kids.f k xs[i].f0).bind fun t2 => (spec_ExprOk.j1 k (i : Int) (((xs[i].f3.length : Int)) != t2) xs xs[i].f0 xs[i].f1 xs[i].f2 xs[i].f3)) else (spec_ExprOk.j1 k (i : Int) true xs xs[i].f0 xs[i].f1 xs[i].f2 xs[i].f3))) (fun k => ?_) ?_
    · rw [spec_ExprOk.l0, if_pos (by omega), if_pos (by omega), rdE xs i hi2]
    · rw [l01In_is]
      simp only [Option.bind_some]
      have hgoal : (nodesB i (xs[i] :: xs.drop (i + 1)) && decide (1 ≤ (xs.length : Int) ∧ (xs.length : Int) ≤ 20)) = (if nodeB i xs[i] then nodesB (i + 1) (xs.drop (i + 1)) && decide (1 ≤ (xs.length : Int) ∧ (xs.length : Int) ≤ 20) else false) := by
        simp only [nodesB]; cases nodeB i xs[i] <;> simp
      rw [hgoal]
      by_cases hr : decide (1 ≤ xs[i].f0 ∧ xs[i].f0 ≤ 11) = true
      · refine Ev.congr (fun k => if_pos hr) (Ev.bind (specKids_ev _) ?_)
        have j := J ((xs[i].f3.length : Int) != kidsOf xs[i].f0)
        have hb : nodeB i xs[i] = (!((xs[i].f3.length : Int) != kidsOf xs[i].f0) && numOk xs[i].f0 xs[i].f1 && nameOk xs[i].f0 xs[i].f2 && kidsIn i xs[i].f3) := by
          unfold nodeB
          rw [hr, Bool.true_and]
          congr 3
          by_cases hq : (xs[i].f3.length : Int) = kidsOf xs[i].f0 <;> simp [hq]
        rw [hb]
        exact j
      · refine Ev.congr (fun k => if_neg hr) ?_
        have hb : nodeB i xs[i] = false := by unfold nodeB; rw [show decide (1 ≤ xs[i].f0 ∧ xs[i].f0 ≤ 11) = false from by simpa using hr]; simp
        rw [hb]
        exact J true
theorem specExprOk_ev (xs : List S34) (hz : smallX xs) : Ev (fun k => spec_ExprOk.f k xs) (exprOkB xs) :=
  specExpr_l0 xs hz xs.length 0 (by omega) (by omega)

/-! ### specEnvGet -/
theorem specEnvGet_l0 (xs : List S87) (s : ByteArray) (hl : xs.length ≤ 9223372036854775807) (d : Nat) : ∀ (k i : Nat), xs.length - i ≤ d → d < k → spec_EnvGet.l0 k xs s (i : Int) = some (envGetL s (xs.drop i)) := by
  induction d with
  | zero =>
    intro k i hd hk
    obtain ⟨k, rfl⟩ : ∃ m, k = m + 1 := ⟨k - 1, by omega⟩
    rw [spec_EnvGet.l0, if_neg (by omega), List.drop_eq_nil_of_le (by omega)]; rfl
  | succ d ih =>
    intro k i hd hk
    obtain ⟨k, rfl⟩ : ∃ m, k = m + 1 := ⟨k - 1, by omega⟩
    by_cases hi : i < xs.length
    · rw [spec_EnvGet.l0, if_pos (by omega), if_pos (by omega), rdI' xs i hi, w64_len hi hl, ih k (i + 1) (by omega) (by omega), drop_get xs i hi]
      simp only [envGetL]
      by_cases h : xs[i].f0 = s
      · rw [if_pos (toList_eq.2 h), if_pos h]
      · rw [if_neg (fun e => h (toList_eq.1 e)), if_neg h]
    · rw [spec_EnvGet.l0, if_neg (by omega), List.drop_eq_nil_of_le (by omega)]; rfl
theorem specEnvGet_is (xs : List S87) (s : ByteArray) (hl : xs.length ≤ 9223372036854775807) (k : Nat) (hk : xs.length < k) : spec_EnvGet.f k xs s = some (envGetL s xs) := by
  unfold spec_EnvGet.f
  exact specEnvGet_l0 xs s hl xs.length k 0 (by omega) hk

/-! ### specEval -/
theorem specMarks_l1 (xs : List S34) (hl : xs.length ≤ 20) (i : Nat) (hi : i < xs.length) (ks : List Int) (hks : xs[i].f3 = ks) (hr : ∀ c ∈ ks, 0 ≤ c ∧ c < (i : Int)) (hkl : ks.length ≤ 2) (r : Nat) : ∀ (k j : Nat) (m : List Bool), ks.length - j = r → j ≤ ks.length → m.length = xs.length → rdB m (i : Int) = true →
    spec_l04Marks.l1 (k + r + 1) m (i : Int) (j : Int) xs = spec_l04Marks.l0 k (markKids m (ks.drop j)) (wrap64 ((i : Int) - 1)) xs := by
  induction r with
  | zero =>
    intro k j m hd hj hm _
    rw [spec_l04Marks.l1, if_pos (by omega), if_pos (by omega), rdE xs i hi, hks, if_neg (by omega), List.drop_eq_nil_of_le (by omega)]; rfl
  | succ r ih =>
    intro k j m hd hj hm hb
    have hj2 : j < ks.length := by omega
    have hc := hr ks[j] (List.getElem_mem hj2)
    have e : rdOf false m (i : Int) = true := hb
    rw [show k + (r + 1) + 1 = (k + r + 1) + 1 from by omega, spec_l04Marks.l1, if_pos (by omega), if_pos (by omega), rdE xs i hi, hks, if_pos (by omega), if_pos (by omega), if_pos e, if_pos (by omega), rdInt ks j hj2, if_pos hc.1, if_pos (by omega), w64_len hj2 (by omega)]
    rw [ih k (j + 1) _ (by omega) (by omega) (by rw [List.length_set]; exact hm) (by rw [rdB_set_ne _ _ _ _ (by omega)]; exact hb), drop_get ks j hj2]
    rfl
theorem specMarks_l0 (xs : List S34) (ho : exprOkB xs = true) (n : Nat) : ∀ (m : List Bool), n ≤ xs.length → m.length = xs.length → Ev (fun k => spec_l04Marks.l0 k m ((n : Int) - 1) xs) (marksGo xs n m) := by
  have hp := expr_pos ho
  induction n with
  | zero =>
    intro m _ hm
    refine Ev.shift 1 (f := fun _ => some m) (fun k => ?_) (Ev.now _)
    rw [spec_l04Marks.l0, if_neg (by omega)]
  | succ n ih =>
    intro m hn hm
    have hi : n < xs.length := by omega
    have hf := node_facts ho n hi
    have hkl : xs[n].f3.length ≤ 2 := by have := hf.2.1; unfold kidsOf at this; split at this <;> (try split at this) <;> omega
    have e := ih (markStep xs m n) (by omega) (by rw [markStep_length]; exact hm)
    have ew : wrap64 ((n : Int) - 1) = (n : Int) - 1 := w64 (by omega) (by omega)
    by_cases hb : rdB m (n : Int) = true
    · have hs : markStep xs m n = markKids m xs[n].f3 := by unfold markStep; rw [if_pos hb]; simp [List.getD, List.getElem?_eq_getElem hi]
      rw [hs] at e
      show Ev _ (marksGo xs n (markStep xs m n))
      rw [hs]
      refine Ev.shift (xs[n].f3.length + 2) (fun k => ?_) e
      have l1 := specMarks_l1 xs hp.2 n hi _ rfl hf.2.2 hkl xs[n].f3.length k 0 m (by omega) (by omega) hm hb
      rw [List.drop_zero, ew] at l1
      rw [show k + (xs[n].f3.length + 2) = (k + xs[n].f3.length + 1) + 1 from by omega, spec_l04Marks.l0, if_pos (by omega), show ((n + 1 : Nat) : Int) - 1 = (n : Int) from by omega]
      exact l1
    · have hs : markStep xs m n = m := by unfold markStep; rw [if_neg hb]
      rw [hs] at e
      show Ev _ (marksGo xs n (markStep xs m n))
      rw [hs]
      refine Ev.shift 2 (fun k => ?_) e
      have hb' : ¬ rdOf false m (n : Int) = true := hb
      rw [show k + 2 = (k + 1) + 1 from rfl, spec_l04Marks.l0, if_pos (by omega), show ((n + 1 : Nat) : Int) - 1 = (n : Int) from by omega, spec_l04Marks.l1, if_pos (by omega), if_pos (by omega), rdE xs n hi]
      by_cases hj : (0 : Int) < (xs[n].f3.length : Int)
      · rw [if_pos hj, if_pos (by omega), if_neg hb', ew]
      · rw [if_neg hj, ew]
theorem specMarks_ev (xs : List S34) (ho : exprOkB xs = true) : Ev (fun k => spec_l04Marks.f k xs) (marksR xs) := by
  have hp := expr_pos ho
  have e := specMarks_l0 xs ho xs.length ((List.replicate xs.length false).set (xs.length - 1) true) (by omega) (by simp)
  refine Ev.congr (fun k => ?_) e
  unfold spec_l04Marks.f
  rw [if_pos (by omega), if_pos (by omega), Option.bind_some, show ((xs.length : Int)).toNat = xs.length from by omega, List.length_replicate, w64 (by omega) (by omega), if_pos (by omega), if_pos (by omega), show ((xs.length : Int) - 1).toNat = xs.length - 1 from by omega]
theorem specFlag_is (b : Bool) : spec_l04Flag.f b = some (flagR b) := by unfold spec_l04Flag.f flagR; split <;> rfl
theorem specTwo_is (op a b : Int) (h : 4 ≤ op ∧ op ≤ 10) : spec_l04Two.f op a b = some (reckonR op a b) := by
  unfold spec_l04Two.f reckonR
  simp only [specFlag_is, Option.bind_some]
  rcases (show op = 4 ∨ op = 5 ∨ op = 6 ∨ op = 7 ∨ op = 8 ∨ op = 9 ∨ op = 10 by omega) with rfl | rfl | rfl | rfl | rfl | rfl | rfl
  · simp
  · simp
  · simp
  · by_cases hb : b = 0 <;> simp [hb]
  · simp
  · simp
  · by_cases ha : a = 0
    · simp [ha]
    · have h1 : (a != 0) = true := bne_iff_ne.2 ha
      simp [ha, h1]
theorem specEval_l0 (xs : List S34) (hz : smallX xs) (ho : exprOkB xs = true) (env : List S87) (hel : env.length ≤ 1048576) (here : Int) (m : List Bool) (hm : m.length = xs.length) (d : Nat) : ∀ (i : Nat) (nums : List Int), xs.length - i = d → i ≤ xs.length → nums.length = xs.length →
    Ev (fun k => spec_EvalExpr.l0 k env here m nums (i : Int) xs) (evalGo env here m i nums (xs.drop i)) := by
  have hp := expr_pos ho
  induction d with
  | zero =>
    intro i nums hd hi hn
    refine Ev.shift 1 (f := fun _ => some (evalGo env here m i nums (xs.drop i))) (fun k => ?_) (Ev.now _)
    rw [spec_EvalExpr.l0, if_neg (by omega), w64 (by omega) (by omega), if_pos (by omega), if_pos (by omega), List.drop_eq_nil_of_le (by omega)]; rfl
  | succ d ih =>
    intro i nums hd hi hn
    have hi2 : i < xs.length := by omega
    have hf := node_facts ho i hi2
    have hen : Ev (fun k => spec_EnvGet.f k env xs[i].f2) (envGetL xs[i].f2 env) := Ev.from env.length (fun k hk => specEnvGet_is env _ (by omega) k hk)
    rw [drop_get xs i hi2]
    show Ev _ (if rdB m (i : Int) then (if (nodeVal env here nums xs[i]).2 && numB (nodeVal env here nums xs[i]).1 then evalGo env here m (i + 1) (nums.set i (nodeVal env here nums xs[i]).1) (xs.drop (i + 1)) else (0, false)) else evalGo env here m (i + 1) nums (xs.drop (i + 1)))
    by_cases hb : rdB m (i : Int) = true
    · rw [if_pos hb]
      have hb2 : rdOf false m (i : Int) = true := hb
      -- behind a value
      have next : ∀ v : Int, Ev (fun k => (spec_l01In.f v (-9999) 9999).bind fun t => (if t = true then (if (i : Int) < (nums.length : Int) then spec_EvalExpr.l0 k env here m (nums.set ((i : Int)).toNat v) (wrap64 ((i : Int) + 1)) xs else none) else some (0, false))) (if numB v then evalGo env here m (i + 1) (nums.set i v) (xs.drop (i + 1)) else (0, false)) := by
        intro v
        rw [l01In_is]
        simp only [Option.bind_some]
        by_cases hv : numB v = true
        · rw [if_pos hv]
          have e := ih (i + 1) (nums.set i v) (by omega) (by omega) (by rw [List.length_set]; exact hn)
          refine Ev.congr (fun k => ?_) e
          have hv2 : decide (-9999 ≤ v ∧ v ≤ 9999) = true := hv
          rw [if_pos hv2, if_pos (by omega), w64_len hi2 (by omega), show ((i : Int)).toNat = i from by omega]
        · rw [if_neg hv]
          exact Ev.congr (f := fun _ => some (0, false)) (fun k => if_neg hv) (Ev.now _)
      by_cases h1 : xs[i].f0 = 1
      · have hv : nodeVal env here nums xs[i] = (xs[i].f1, true) := by unfold nodeVal; rw [if_pos h1]
        rw [hv]
        refine Ev.shift 1 (fun k => ?_) (next xs[i].f1)
        rw [spec_EvalExpr.l0, if_pos (by omega), if_pos (by omega), if_pos (by omega), if_pos hb2, rdE xs i hi2, if_pos h1]
      by_cases h2 : xs[i].f0 = 2
      · have hv : nodeVal env here nums xs[i] = envGetL xs[i].f2 env := by unfold nodeVal; rw [if_neg h1, if_pos h2]
        rw [hv]
        refine Ev.shift 1 (f := fun k => (spec_EnvGet.f k env xs[i].f2).bind fun bt => (if bt.2 = true then ((spec_l01In.f bt.1 (-9999) 9999).bind fun t => (if t = true then (if (i : Int) < (nums.length : Int) then spec_EvalExpr.l0 k env here m (nums.set ((i : Int)).toNat bt.1) (wrap64 ((i : Int) + 1)) xs else none) else some (0, false))) else some (0, false))) (fun k => ?_) ?_
        · rw [spec_EvalExpr.l0, if_pos (by omega), if_pos (by omega), if_pos (by omega), if_pos hb2, rdE xs i hi2, if_neg h1, if_pos h2]
        · refine Ev.bind hen ?_
          by_cases hg : (envGetL xs[i].f2 env).2 = true
          · rw [hg, Bool.true_and]
            exact Ev.congr (fun k => if_pos rfl) (next _)
          · rw [show (envGetL xs[i].f2 env).2 = false from by simpa using hg, Bool.false_and]
            exact Ev.congr (f := fun _ => some (0, false)) (fun k => if_neg (by simp)) (Ev.now _)
      by_cases h3 : xs[i].f0 = 3
      · have hv : nodeVal env here nums xs[i] = (here, true) := by unfold nodeVal; rw [if_neg h1, if_neg h2, if_pos h3]
        rw [hv]
        refine Ev.shift 1 (fun k => ?_) (next here)
        rw [spec_EvalExpr.l0, if_pos (by omega), if_pos (by omega), if_pos (by omega), if_pos hb2, rdE xs i hi2, if_neg h1, if_neg h2, if_pos h3]
      have hv : nodeVal env here nums xs[i] = reckonR xs[i].f0 (rd nums (rd xs[i].f3 0)) (rd nums (rd xs[i].f3 ((xs[i].f3.length : Int) - 1))) := by unfold nodeVal; rw [if_neg h1, if_neg h2, if_neg h3]
      by_cases h11 : xs[i].f0 = 11
      · have hk : (xs[i].f3.length : Int) = 1 := by rw [hf.2.1]; unfold kidsOf; rw [if_neg (by omega), if_pos h11]
        have hc := hf.2.2 _ (rd_in xs[i].f3 0 (by omega) (by omega))
        have hr : reckonR xs[i].f0 (rd nums (rd xs[i].f3 0)) (rd nums (rd xs[i].f3 ((xs[i].f3.length : Int) - 1))) = (flagR (rd nums (rd xs[i].f3 0) == 0), true) := by
          unfold reckonR
          rw [if_neg (by omega), if_neg (by omega), if_neg (by omega), if_neg (by omega), if_neg (by omega), if_neg (by omega), if_pos h11]
        rw [hv, hr]
        have hfl : spec_l04Flag.f (rd nums (rd xs[i].f3 0) == 0) = some (flagR (rd nums (rd xs[i].f3 0) == 0)) := by unfold spec_l04Flag.f flagR; split <;> rfl
        refine Ev.shift 1 (fun k => ?_) (next (flagR (rd nums (rd xs[i].f3 0) == 0)))
        rw [spec_EvalExpr.l0, if_pos (by omega), if_pos (by omega), if_pos (by omega), if_pos hb2, rdE xs i hi2, if_neg h1, if_neg h2, if_neg h3, if_pos h11, if_pos (by omega), if_pos hc.1, if_pos (by omega), hfl, Option.bind_some]
      · have hk : (xs[i].f3.length : Int) = 2 := by rw [hf.2.1]; unfold kidsOf; rw [if_neg (by omega), if_neg h11]
        have hc := hf.2.2 _ (rd_in xs[i].f3 0 (by omega) (by omega))
        have hc1 := hf.2.2 _ (rd_in xs[i].f3 1 (by omega) (by omega))
        rw [hv, hk, show (2 : Int) - 1 = 1 from rfl]
        have ht := specTwo_is xs[i].f0 (rd nums (rd xs[i].f3 0)) (rd nums (rd xs[i].f3 1)) (by omega)
        by_cases hg : (reckonR xs[i].f0 (rd nums (rd xs[i].f3 0)) (rd nums (rd xs[i].f3 1))).2 = true
        · rw [hg, Bool.true_and]
          refine Ev.shift 1 (fun k => ?_) (next _)
          rw [spec_EvalExpr.l0, if_pos (by omega), if_pos (by omega), if_pos (by omega), if_pos hb2, rdE xs i hi2, if_neg h1, if_neg h2, if_neg h3, if_neg h11, if_pos (by omega), if_pos hc.1, if_pos (by omega), if_pos (by omega), if_pos hc1.1, if_pos (by omega), ht, Option.bind_some, if_pos hg]
        · rw [show (reckonR xs[i].f0 (rd nums (rd xs[i].f3 0)) (rd nums (rd xs[i].f3 1))).2 = false from by simpa using hg, Bool.false_and]
          refine Ev.shift 1 (f := fun _ => some (0, false)) (fun k => ?_) (Ev.now _)
          rw [spec_EvalExpr.l0, if_pos (by omega), if_pos (by omega), if_pos (by omega), if_pos hb2, rdE xs i hi2, if_neg h1, if_neg h2, if_neg h3, if_neg h11, if_pos (by omega), if_pos hc.1, if_pos (by omega), if_pos (by omega), if_pos hc1.1, if_pos (by omega), ht, Option.bind_some, if_neg hg]
    · rw [if_neg hb]
      have hb2 : ¬ rdOf false m (i : Int) = true := hb
      have e := ih (i + 1) nums (by omega) (by omega) hn
      refine Ev.shift 1 (fun k => ?_) e
      rw [spec_EvalExpr.l0, if_pos (by omega), if_pos (by omega), if_pos (by omega), if_neg hb2, w64_len hi2 (by omega)]
theorem specEvalExpr_ev (xs : List S34) (hz : smallX xs) (env : List S87) (hel : env.length ≤ 1048576) (here : Int) : Ev (fun k => spec_EvalExpr.f k xs env here) (evalR xs env here) := by
  unfold spec_EvalExpr.f evalR
  refine Ev.bind (specExprOk_ev xs hz) ?_
  by_cases ho : exprOkB xs = true
  · have hp := expr_pos ho
    rw [if_pos ho]
    refine Ev.congr (fun k => if_pos ho) (Ev.bind (specMarks_ev xs ho) ?_)
    have e := specEval_l0 xs hz ho env hel here (marksR xs) (marksR_length xs) xs.length 0 (List.replicate xs.length 0) (by omega) (by omega) (by simp)
    refine Ev.congr (fun k => ?_) e
    rw [if_pos (by omega), if_pos (by omega), show ((xs.length : Int)).toNat = xs.length from by omega]; rfl
  · rw [if_neg ho]
    exact Ev.congr (f := fun _ => some (0, false)) (fun k => if_neg ho) (Ev.now _)

/-! ### isSmall -/
theorem isSmall_is (s : ByteArray) (i : Int) : impl_isSmall.f (bt s i) = some (decide (97 ≤ bt s i ∧ bt s i ≤ 122)) := by
  unfold impl_isSmall.f
  rw [w64_bt, within_is]; rfl

/-! ### implVarName -/
theorem implVarName_l0 (s : ByteArray) (hs : s.size ≤ 140737488351232) (d : Nat) : ∀ (k i : Nat), s.size - i ≤ d → d < k →
    impl_VarName.l0 k s (s.size : Int) (i : Int) = some (((bs s).drop i).all small && decide (1 ≤ (s.size : Int) ∧ (s.size : Int) ≤ 4)) := by
  induction d with
  | zero =>
    intro k i hd hk
    obtain ⟨k, rfl⟩ : ∃ m, k = m + 1 := ⟨k - 1, by omega⟩
    simp only [impl_VarName.l0]
    rw [if_neg (by omega), within_is, bs_drop_nil s i (by omega)]; simp
  | succ d ih =>
    intro k i hd hk
    obtain ⟨k, rfl⟩ : ∃ m, k = m + 1 := ⟨k - 1, by omega⟩
    by_cases hi : i < s.size
    · have e := ih k (i + 1) (by omega) (by omega)
      simp only [impl_VarName.l0]
      rw [if_pos (by omega), if_pos (by omega), if_pos (by omega), isSmall_is, Option.bind_some, w64_succ hi hs, e, bs_drop s i hi]
      simp only [List.all_cons]
      by_cases h1 : 97 ≤ bt s i ∧ bt s i ≤ 122
      · rw [if_pos (by simpa using h1), show small (bt s i) = true from by simp [small]; omega]; simp
      · rw [if_neg (by simpa using h1), show small (bt s i) = false from by simp [small]; omega]; simp
    · simp only [impl_VarName.l0]
      rw [if_neg (by omega), within_is, bs_drop_nil s i (by omega)]; simp
theorem implVarName_is (s : ByteArray) (hs : s.size ≤ 140737488351232) (k : Nat) (hk : s.size < k) : impl_VarName.f k s = some (varNameB s) := by
  unfold impl_VarName.f
  exact implVarName_l0 s hs s.size k 0 (by omega) hk

/-! ### implExprOk -/
theorem implKidCount_is (op : Int) : impl_kidCount.f op = some (if 1 ≤ op ∧ op ≤ 11 then kidsOf op else -1) := by
  unfold impl_kidCount.f kidsOf
  rw [within_is, Option.bind_some]
  by_cases h1 : 1 ≤ op ∧ op ≤ 3
  · rw [if_pos (decide_eq_true h1), if_pos (by omega), if_pos (by omega)]
  · rw [if_neg (by simpa using h1), within_is, Option.bind_some]
    by_cases h2 : 4 ≤ op ∧ op ≤ 10
    · rw [if_pos (decide_eq_true h2), if_pos (by omega), if_neg (by omega), if_neg (by omega)]
    · rw [if_neg (by simpa using h2)]
      by_cases h3 : op = 11
      · rw [if_pos h3, if_pos (by omega), if_neg (by omega), if_pos h3]
      · rw [if_neg h3, if_neg (by omega)]
theorem implNode_j0 (op num : Int) (s : ByteArray) (hs : s.size ≤ 1048576) (ks : List Int) (b : Bool) (k : Nat) (hk : 1048577 < k) :
    impl_exNodeOk.j0 k b op num s ks = some (!b && numOk op num && nameOk op s) := by
  obtain ⟨k, rfl⟩ : ∃ m, k = m + 1 := ⟨k - 1, by omega⟩
  rw [impl_exNodeOk.j0]
  cases b with
  | true => rw [if_pos (show true = true from rfl)]; rfl
  | false =>
    rw [if_neg (by simp), implVarName_is s (by omega) k (by omega), within_is]
    simp only [Option.bind_some, Bool.not_false, Bool.true_and]
    unfold numOk nameOk
    by_cases h2 : op = 2
    · have h1 : ¬ op = 1 := by omega
      by_cases h0 : num = 0
      · by_cases he : s.toList = ([] : List UInt8)
        · simp [h2, h0, he]
        · simp [h2, h0, he]
      · by_cases he : s.toList = ([] : List UInt8)
        · simp [h2, h0, he]
        · simp [h2, h0, he]
    · by_cases h1 : op = 1
      · by_cases h0 : num = 0
        · by_cases he : s.toList = ([] : List UInt8)
          · simp [h1, h0, he]
          · simp [h1, h0, he]
        · by_cases he : s.toList = ([] : List UInt8)
          · by_cases hr : 0 ≤ num ∧ num ≤ 99
            · simp [h1, h0, he, hr]
            · simp [h1, h0, he, if_neg hr]; intro h; omega
          · by_cases hr : 0 ≤ num ∧ num ≤ 99
            · simp [h1, h0, he]
            · simp [h1, h0, he]
      · by_cases h0 : num = 0
        · by_cases he : s.toList = ([] : List UInt8)
          · simp [h1, h2, h0, he]
          · simp [h1, h2, h0, he]
        · by_cases he : s.toList = ([] : List UInt8)
          · simp [h1, h2, h0, he]
          · simp [h1, h2, h0, he]
theorem implNode_is (i : Nat) (hi : i ≤ 1048576) (y : S34) (hy : y.f2.size ≤ 1048576 ∧ y.f3.length ≤ 1048576) (k : Nat) (hk : 1048577 < k) : impl_exNodeOk.f k y.f0 y.f1 y.f2 y.f3 (i : Int) = some (nodeB i y) := by
  unfold impl_exNodeOk.f nodeB
  rw [implKidCount_is, Option.bind_some]
  by_cases hr : 1 ≤ y.f0 ∧ y.f0 ≤ 11
  · rw [if_pos hr, show decide (1 ≤ y.f0 ∧ y.f0 ≤ 11) = true from decide_eq_true hr, Bool.true_and]
    by_cases hq : (y.f3.length : Int) = kidsOf y.f0
    · rw [if_pos hq, implKidsAhead_is y.f3 hy.2 i (by omega) k (by omega), Option.bind_some, implNode_j0 _ _ _ hy.1 _ _ k hk, show decide ((y.f3.length : Int) = kidsOf y.f0) = true from decide_eq_true hq]
      congr 1
      cases kidsIn i y.f3 <;> simp
    · rw [if_neg hq, implNode_j0 _ _ _ hy.1 _ _ k hk, show decide ((y.f3.length : Int) = kidsOf y.f0) = false from decide_eq_false hq]; simp
  · rw [if_neg hr, show decide (1 ≤ y.f0 ∧ y.f0 ≤ 11) = false from decide_eq_false hr, if_neg (by omega), implNode_j0 _ _ _ hy.1 _ _ k hk]; simp
theorem implExprOk_is (xs : List S34) (hz : smallX xs) (k : Nat) (hk : xs.length + 1048578 < k) : impl_ExprOk.f k xs = some (exprOkB xs) := by
  have hl := hz.1
  have go : ∀ (d k i : Nat), xs.length - i ≤ d → d + 1048578 < k → impl_ExprOk.l0 k xs (xs.length : Int) (i : Int) xs = some (nodesB i (xs.drop i) && decide (1 ≤ (xs.length : Int) ∧ (xs.length : Int) ≤ 20)) := by
    intro d
    induction d with
    | zero =>
      intro k i hd hk
      obtain ⟨k, rfl⟩ : ∃ m, k = m + 1 := ⟨k - 1, by omega⟩
      rw [impl_ExprOk.l0, if_neg (by omega), List.drop_eq_nil_of_le (by omega), within_is]; rfl
    | succ d ih =>
      intro k i hd hk
      obtain ⟨k, rfl⟩ : ∃ m, k = m + 1 := ⟨k - 1, by omega⟩
      by_cases hi : i < xs.length
      · have hy := hz.2 _ (List.getElem_mem hi)
        rw [impl_ExprOk.l0, if_pos (by omega), if_pos (by omega), if_pos (by omega), rdE xs i hi, implNode_is i (by omega) _ hy k (by omega), Option.bind_some, w64_len hi (by omega), ih k (i + 1) (by omega) (by omega), drop_get xs i hi]
        simp only [nodesB]
        cases nodeB i xs[i] <;> simp
      · rw [impl_ExprOk.l0, if_neg (by omega), List.drop_eq_nil_of_le (by omega), within_is]; rfl
  unfold impl_ExprOk.f
  exact go xs.length k 0 (by omega) (by omega)

/-! ### implEnvGet -/
theorem implEnvGet_l0 (xs : List S87) (s : ByteArray) (hl : xs.length ≤ 9223372036854775807) (d : Nat) : ∀ (k i : Nat), xs.length - i ≤ d → d < k → impl_EnvGet.l0 k s xs (xs.length : Int) (i : Int) = some (envGetL s (xs.drop i)) := by
  induction d with
  | zero =>
    intro k i hd hk
    obtain ⟨k, rfl⟩ : ∃ m, k = m + 1 := ⟨k - 1, by omega⟩
    rw [impl_EnvGet.l0, if_neg (by omega), List.drop_eq_nil_of_le (by omega)]; rfl
  | succ d ih =>
    intro k i hd hk
    obtain ⟨k, rfl⟩ : ∃ m, k = m + 1 := ⟨k - 1, by omega⟩
    by_cases hi : i < xs.length
    · rw [impl_EnvGet.l0, if_pos (by omega), if_pos (by omega), if_pos (by omega), rdI' xs i hi, w64_len hi hl, ih k (i + 1) (by omega) (by omega), drop_get xs i hi]
      simp only [envGetL]
      by_cases h : xs[i].f0 = s
      · rw [if_pos (toList_eq.2 h), if_pos h]
      · rw [if_neg (fun e => h (toList_eq.1 e)), if_neg h]
    · rw [impl_EnvGet.l0, if_neg (by omega), List.drop_eq_nil_of_le (by omega)]; rfl
theorem implEnvGet_is (xs : List S87) (s : ByteArray) (hl : xs.length ≤ 9223372036854775807) (k : Nat) (hk : xs.length < k) : impl_EnvGet.f k xs s = some (envGetL s xs) := by
  unfold impl_EnvGet.f
  exact implEnvGet_l0 xs s hl xs.length k 0 (by omega) hk

/-! ### isNum -/
theorem isNum_is (n : Int) : impl_isNum.f n = some (decide (-9999 ≤ n ∧ n ≤ 9999)) := by
  unfold impl_isNum.f
  rw [within_is]; rfl

/-! ### implEval -/
theorem implReached_l1 (xs : List S34) (hl : xs.length ≤ 20) (i : Nat) (hi : i < xs.length) (ks : List Int) (hr : ∀ c ∈ ks, 0 ≤ c ∧ c < (i : Int)) (hkl : ks.length ≤ 2) (r : Nat) : ∀ (k j : Nat) (m : List Bool), ks.length - j = r → j ≤ ks.length → m.length = xs.length →
    impl_reachedNodes.l1 (k + r + 1) m (i : Int) ks (ks.length : Int) (j : Int) xs = impl_reachedNodes.l0 k (if rdB m (i : Int) then markKids m (ks.drop j) else m) (wrap64 ((i : Int) - 1)) xs := by
  induction r with
  | zero =>
    intro k j m hd hj hm
    rw [impl_reachedNodes.l1, if_neg (by omega), List.drop_eq_nil_of_le (by omega)]
    show _ = impl_reachedNodes.l0 k (if rdB m (i : Int) then m else m) _ _
    rw [ite_self]
  | succ r ih =>
    intro k j m hd hj hm
    have hj2 : j < ks.length := by omega
    have hc := hr ks[j] (List.getElem_mem hj2)
    obtain ⟨c, hcn⟩ := Int.eq_ofNat_of_zero_le hc.1
    have hcl : c < m.length := by omega
    rw [show k + (r + 1) + 1 = (k + r + 1) + 1 from by omega, impl_reachedNodes.l1, if_pos (by omega), if_pos (by omega), if_pos (by omega), rdInt ks j hj2, if_pos hc.1, if_pos (by omega), w64_len hj2 (by omega), drop_get ks j hj2]
    have set_self : rdB m (c : Int) = rdB m (i : Int) → m.set c (rdB m (i : Int)) = m := by
      intro e
      rw [← e, rdB_at m c hcl]
      exact List.set_getElem_self hcl
    have hmk : markKids m (ks[j] :: ks.drop (j + 1)) = markKids (m.set c true) (ks.drop (j + 1)) := by show markKids (m.set (ks[j]).toNat true) _ = _; rw [show (ks[j]).toNat = c from by omega]
    have hset : ∀ v : Bool, rdB (m.set c v) (i : Int) = rdB m (i : Int) := fun v => rdB_set_ne _ _ _ _ (by omega)
    rw [show (ks[j]).toNat = c from by omega]
    by_cases hb : rdOf false m ks[j] = true
    · rw [if_pos hb, ih k (j + 1) _ (by omega) (by omega) (by rw [List.length_set]; exact hm), hset, hmk]
      by_cases hbi : rdB m (i : Int) = true
      · rw [if_pos hbi, if_pos hbi]
      · rw [if_neg hbi, if_neg hbi]
        have hb2 : rdB m (c : Int) = true := by rw [← hcn]; exact hb
        have : m.set c true = m := by
          rw [rdB_at m c hcl] at hb2
          rw [← hb2]
          exact List.set_getElem_self hcl
        rw [this]
    · rw [if_neg hb, if_pos (by omega), if_pos (by omega), ih k (j + 1) _ (by omega) (by omega) (by rw [List.length_set]; exact hm), hset, hmk]
      by_cases hbi : rdB m (i : Int) = true
      · rw [if_pos hbi, if_pos hbi, show rdOf false m (i : Int) = true from hbi]
      · rw [if_neg hbi, if_neg hbi, show rdOf false m (i : Int) = false from (by have h9 : rdB m (i : Int) = false := (by simpa using hbi); exact h9)]
        have hb2 : rdB m (c : Int) = false := by rw [← hcn]; simpa [rdB] using hb
        have : m.set c false = m := by
          rw [rdB_at m c hcl] at hb2
          rw [← hb2]
          exact List.set_getElem_self hcl
        rw [this]
theorem implReached_l0 (xs : List S34) (ho : exprOkB xs = true) (n : Nat) : ∀ (m : List Bool), n ≤ xs.length → m.length = xs.length → Ev (fun k => impl_reachedNodes.l0 k m ((n : Int) - 1) xs) (marksGo xs n m) := by
  have hp := expr_pos ho
  induction n with
  | zero =>
    intro m _ hm
    refine Ev.shift 1 (f := fun _ => some m) (fun k => ?_) (Ev.now _)
    rw [impl_reachedNodes.l0, if_neg (by omega)]
  | succ n ih =>
    intro m hn hm
    have hi : n < xs.length := by omega
    have hf := node_facts ho n hi
    have hkl : xs[n].f3.length ≤ 2 := by have := hf.2.1; unfold kidsOf at this; split at this <;> (try split at this) <;> omega
    have e := ih (markStep xs m n) (by omega) (by rw [markStep_length]; exact hm)
    have ew : wrap64 ((n : Int) - 1) = (n : Int) - 1 := w64 (by omega) (by omega)
    have hs : markStep xs m n = (if rdB m (n : Int) then markKids m xs[n].f3 else m) := by unfold markStep; simp [List.getD, List.getElem?_eq_getElem hi]
    show Ev _ (marksGo xs n (markStep xs m n))
    refine Ev.shift (xs[n].f3.length + 2) (fun k => ?_) e
    have l1 := implReached_l1 xs hp.2 n hi xs[n].f3 hf.2.2 hkl xs[n].f3.length k 0 m (by omega) (by omega) hm
    rw [List.drop_zero, ew, ← hs] at l1
    rw [show k + (xs[n].f3.length + 2) = (k + xs[n].f3.length + 1) + 1 from by omega, impl_reachedNodes.l0, if_pos (by omega), show ((n + 1 : Nat) : Int) - 1 = (n : Int) from by omega, if_pos (by omega), if_pos (by omega), rdE xs n hi]
    exact l1
theorem implReached_ev (xs : List S34) (ho : exprOkB xs = true) : Ev (fun k => impl_reachedNodes.f k xs) (marksR xs) := by
  have hp := expr_pos ho
  have e := implReached_l0 xs ho xs.length ((List.replicate xs.length false).set (xs.length - 1) true) (by omega) (by simp)
  refine Ev.congr (fun k => ?_) e
  unfold impl_reachedNodes.f
  rw [if_pos (by omega), if_pos (by omega), Option.bind_some, show ((xs.length : Int)).toNat = xs.length from by omega, w64 (by omega) (by omega), if_pos (by omega), if_pos (by rw [List.length_replicate]; omega), show ((xs.length : Int) - 1).toNat = xs.length - 1 from by omega]
theorem implFlag_is (b : Bool) : impl_flag.f b = some (flagR b) := by unfold impl_flag.f flagR; split <;> rfl
theorem implReckon_is (op a b : Int) : impl_reckon.f op a b = some (reckonR op a b) := by
  unfold impl_reckon.f reckonR
  simp only [implFlag_is, Option.bind_some]
  by_cases h4 : op = 4
  · simp [h4]
  by_cases h5 : op = 5
  · simp [h5]
  by_cases h6 : op = 6
  · simp [h6]
  by_cases h8 : op = 8
  · simp [h8]
  by_cases h9 : op = 9
  · simp [h9]
  by_cases h10 : op = 10
  · by_cases ha : a = 0
    · simp [h10, ha]
    · have h1 : (a != 0) = true := bne_iff_ne.2 ha
      simp [h10, ha, h1]
  by_cases h11 : op = 11
  · simp [h11]
  by_cases hb : b = 0
  · simp [h4, h5, h6, h8, h9, h10, h11, hb]
  · simp [h4, h5, h6, h8, h9, h10, h11, hb]
theorem implNodeVal_is (xs : List S34) (ho : exprOkB xs = true) (i : Nat) (hi : i < xs.length) (env : List S87) (hel : env.length ≤ 1048576) (here : Int) (nums : List Int) (hn : nums.length = xs.length) (k : Nat) (hk : env.length < k) :
    impl_evalNode.f k xs[i].f0 xs[i].f1 xs[i].f2 xs[i].f3 nums env here = some (nodeVal env here nums xs[i]) := by
  have hf := node_facts ho i hi
  unfold impl_evalNode.f nodeVal
  by_cases h1 : xs[i].f0 = 1
  · rw [if_pos h1, if_pos h1]
  by_cases h2 : xs[i].f0 = 2
  · rw [if_neg h1, if_neg h1, if_pos h2, if_pos h2, implEnvGet_is env _ (by omega) k hk]; rfl
  by_cases h3 : xs[i].f0 = 3
  · rw [if_neg h1, if_neg h1, if_neg h2, if_neg h2, if_pos h3, if_pos h3]
  have hk1 : 1 ≤ (xs[i].f3.length : Int) ∧ (xs[i].f3.length : Int) ≤ 2 := by rw [hf.2.1]; unfold kidsOf; rw [if_neg (by omega)]; split <;> omega
  have hc := hf.2.2 _ (rd_in xs[i].f3 0 (by omega) (by omega))
  have hc1 := hf.2.2 _ (rd_in xs[i].f3 ((xs[i].f3.length : Int) - 1) (by omega) (by omega))
  rw [if_neg h1, if_neg h1, if_neg h2, if_neg h2, if_neg h3, if_neg h3, if_pos (by omega), if_pos hc.1, if_pos (by omega), w64 (by omega) (by omega), if_pos (by omega), if_pos (by omega), if_pos hc1.1, if_pos (by omega), implReckon_is]
  rfl
theorem implEval_l0 (xs : List S34) (ho : exprOkB xs = true) (env : List S87) (hel : env.length ≤ 1048576) (here : Int) (m : List Bool) (hm : m.length = xs.length) (d : Nat) : ∀ (k i : Nat) (nums : List Int), xs.length - i = d → i ≤ xs.length → nums.length = xs.length → env.length + d + 1 < k →
    impl_EvalExpr.l0 k env here nums m (m.length : Int) (i : Int) xs = some (evalGo env here m i nums (xs.drop i)) := by
  have hp := expr_pos ho
  induction d with
  | zero =>
    intro k i nums hd hi hn hk
    obtain ⟨k, rfl⟩ : ∃ m, k = m + 1 := ⟨k - 1, by omega⟩
    rw [impl_EvalExpr.l0, if_neg (by omega), w64 (by omega) (by omega), if_pos (by omega), if_pos (by omega), List.drop_eq_nil_of_le (by omega)]; rfl
  | succ d ih =>
    intro k i nums hd hi hn hk
    obtain ⟨k, rfl⟩ : ∃ m, k = m + 1 := ⟨k - 1, by omega⟩
    have hi2 : i < xs.length := by omega
    rw [drop_get xs i hi2]
    show _ = some (if rdB m (i : Int) then (if (nodeVal env here nums xs[i]).2 && numB (nodeVal env here nums xs[i]).1 then evalGo env here m (i + 1) (nums.set i (nodeVal env here nums xs[i]).1) (xs.drop (i + 1)) else (0, false)) else evalGo env here m (i + 1) nums (xs.drop (i + 1)))
    rw [impl_EvalExpr.l0, if_pos (by omega), if_pos (by omega), if_pos (by omega)]
    by_cases hb : rdB m (i : Int) = true
    · have hb2 : rdOf false m (i : Int) = true := hb
      rw [if_pos hb, if_pos hb2, if_pos (by omega), rdE xs i hi2, implNodeVal_is xs ho i hi2 env hel here nums hn k (by omega), Option.bind_some]
      by_cases hg : (nodeVal env here nums xs[i]).2 = true
      · rw [if_pos hg, isNum_is, Option.bind_some, hg, Bool.true_and]
        by_cases hv : numB (nodeVal env here nums xs[i]).1 = true
        · have hv2 : decide (-9999 ≤ (nodeVal env here nums xs[i]).1 ∧ (nodeVal env here nums xs[i]).1 ≤ 9999) = true := hv
          rw [if_pos hv, if_pos hv2, if_pos (by omega), w64_len hi2 (by omega), show ((i : Int)).toNat = i from by omega]
          exact ih k (i + 1) _ (by omega) (by omega) (by rw [List.length_set]; exact hn) (by omega)
        · have hv2 : ¬ decide (-9999 ≤ (nodeVal env here nums xs[i]).1 ∧ (nodeVal env here nums xs[i]).1 ≤ 9999) = true := hv
          rw [if_neg hv, if_neg hv2]
      · rw [if_neg hg, show (nodeVal env here nums xs[i]).2 = false from by simpa using hg, Bool.false_and, if_neg (by simp)]
    · have hb2 : ¬ rdOf false m (i : Int) = true := hb
      rw [if_neg hb, if_neg hb2, w64_len hi2 (by omega)]
      exact ih k (i + 1) nums (by omega) (by omega) hn (by omega)
theorem implEvalExpr_ev (xs : List S34) (hz : smallX xs) (env : List S87) (hel : env.length ≤ 1048576) (here : Int) : Ev (fun k => impl_EvalExpr.f k xs env here) (evalR xs env here) := by
  unfold impl_EvalExpr.f evalR
  refine Ev.bind (Ev.from (xs.length + 1048578) (implExprOk_is xs hz)) ?_
  by_cases ho : exprOkB xs = true
  · have hp := expr_pos ho
    rw [if_pos ho]
    refine Ev.congr (f := fun k => (impl_reachedNodes.f k xs).bind fun t => impl_EvalExpr.l0 k env here (List.replicate xs.length 0) t (t.length : Int) 0 xs) (fun k => ?_) (Ev.bind (implReached_ev xs ho) ?_)
    · rw [if_pos ho, if_pos (by omega), if_pos (by omega), show ((xs.length : Int)).toNat = xs.length from by omega]
    · exact Ev.from (env.length + xs.length + 1) (fun k hk => implEval_l0 xs ho env hel here (marksR xs) (marksR_length xs) xs.length k 0 _ (by omega) (by omega) (by simp) hk)
  · rw [if_neg ho]
    exact Ev.congr (f := fun _ => some (0, false)) (fun k => if_neg ho) (Ev.now _)

/-! ### FnExactEvalExpr -/
theorem FnExactEvalExpr : laws_FnExactEvalExpr.Pure := by
  intro xs vs here hx hl hv hvl hw
  have hl : xs.length ≤ 9223372036854775807 := by unfold maxLen at hl; exact hl
  have hvl : vs.length ≤ 9223372036854775807 := by unfold maxLen at hvl; exact hvl
  refine Ev.rounds (r := true) ?_
  unfold laws_FnExactEvalExpr.f
  obtain ⟨r, e, hz⟩ := szExpr_ev xs hx hl 1048576 (by omega) (by omega)
  refine Ev.bind e ?_
  by_cases h0 : r < 0
  · exact Ev.congr (f := fun _ => some true) (fun k => if_pos h0) (Ev.now _)
  · obtain ⟨hr1, hz⟩ := hz (by omega)
    have hi : smallX (xs.map toEN) := smallEI_of hz
    refine Ev.congr (fun k => if_neg h0) ?_
    obtain ⟨r2, hp⟩ : ∃ r2, Ev (fun k => laws_szVarS.f k vs r) r2 ∧ (0 ≤ r2 → vs.length ≤ 1048576) := by
      obtain ⟨r2, hr2, hp2⟩ := szVarS_is vs hv hvl r (by omega) (by omega) (vs.length + 1) (by omega)
      exact ⟨r2, Ev.of (laws_szVarS.mono vs r) hr2, fun h => (hp2 h).2.1⟩
    refine Ev.bind hp.1 ?_
    by_cases h1 : r2 < 0
    · exact Ev.congr (f := fun _ => some true) (fun k => if_pos h1) (Ev.now _)
    · have hvz := hp.2 (by omega)
      have et : Ev (fun k => laws_toExpr.f k xs) (xs.map toEN) := Ev.from (1048577 + xs.length) (toExpr_is xs hz)
      have ev : Ev (fun k => laws_toVarS.f k vs) (vs.map toV) := Ev.from vs.length (toVarS_is vs hvz)
      have hml : (vs.map toV).length ≤ 1048576 := by rw [List.length_map]; exact hvz
      refine Ev.congr (fun k => if_neg h1) (Ev.bind et (Ev.bind ev (Ev.bind (specEvalExpr_ev _ hi _ hml here) (Ev.bind et (Ev.bind ev (Ev.bind (implEvalExpr_ev _ hi _ hml here) ?_))))))
      refine Ev.congr (fun k => if_pos rfl) (Ev.shift 1 (f := fun k => (laws_toExpr.f k xs).bind fun t310 => ((laws_eqExpr.f k (xs.map toEN) t310).bind fun t313 => (if t313 = true then ((laws_toVarS.f k vs).bind fun t314 => ((laws_eqVarS.f k (vs.map toV) t314).bind fun t317 => (if t317 = true then (some true) else (some false)))) else (some false)))) (fun k => ?_) ?_)
      · rw [laws_FnExactEvalExpr.j0, if_neg (by simp)]
      · refine Ev.bind et (Ev.bind (Ev.from (1048577 + (xs.map toEN).length) (eqExpr_self _ hi)) (Ev.congr (fun k => if_pos rfl) (Ev.bind ev (Ev.bind (Ev.from (vs.map toV).length (eqVarS_self _ (by omega))) ?_))))
        exact Ev.congr (f := fun _ => some true) (fun k => if_pos rfl) (Ev.now _)

end Go.Proofs.Ytnmhggdaccbbfaa.Pure
