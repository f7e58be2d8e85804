/- FnExactHeightOf without Go: at every tree the program's HeightOf and the reference's answer the same. -/
import Derived.Test.YtigibdkgimgknaaMFnExactHeightOfok
set_option linter.unusedVariables false
set_option linter.unusedSimpArgs false
set_option maxHeartbeats 400000
namespace Go.Proofs.Ytigibdkgimgknaa.Pure
open Go.RowKit Go.Proofs.Ytigibdkgimgknaa.MFnExactHeightOf Go.Proofs.YtigibdkgimgknaaW.PrintWords Go.Proofs.YtigibdkgimgknaaW.PrintLast
/-! ### base -/
theorem w64 {n : Int} (h : -9223372036854775808 ≤ n) (h' : n ≤ 9223372036854775807) : wrap64 n = n := by unfold wrap64; omega
theorem w64_succ {i m : Nat} (h : i < m) (hm : m ≤ 140737488351232) : wrap64 ((i : Int) + 1) = ((i + 1 : Nat) : Int) := by
  rw [w64 (by omega) (by omega)]; omega
theorem w64_bt (s : ByteArray) (i : Int) : wrap64 (bt s i) = bt s i := by
  have := bt_range s i
  exact w64 (by omega) (by omega)
/-- A string's bytes as numbers. -/
def bs (s : ByteArray) : List Int := s.data.toList.map fun b => (b.toNat : Int)
theorem bs_length (s : ByteArray) : (bs s).length = s.size := by simp [bs]
theorem bs_get (s : ByteArray) (i : Nat) (h : i < s.size) : (bs s)[i]? = some (bt s i) := by
  have h2 : i < s.data.toList.length := by simpa using h
  simp only [bs, List.getElem?_map, List.getElem?_eq_getElem h2, Option.map_some]
  unfold bt
  rw [dif_pos (by simpa using h)]
  rfl
theorem bs_drop (s : ByteArray) (i : Nat) (h : i < s.size) : (bs s).drop i = bt s i :: (bs s).drop (i + 1) := by
  have h2 : i < (bs s).length := by rw [bs_length]; exact h
  rw [List.drop_eq_getElem_cons h2]
  congr 1
  have := bs_get s i h
  rw [List.getElem?_eq_getElem h2] at this
  exact Option.some.inj this
theorem bs_drop_nil (s : ByteArray) (i : Nat) (h : s.size ≤ i) : (bs s).drop i = [] := List.drop_eq_nil_of_le (by rw [bs_length]; exact h)
theorem bs_range {s : ByteArray} {c : Int} (h : c ∈ bs s) : 0 ≤ c ∧ c ≤ 255 := by
  simp only [bs, List.mem_map] at h
  obtain ⟨b, _, rfl⟩ := h
  have := b.toNat_lt
  omega
theorem bs_inj {s t : ByteArray} (h : bs s = bs t) : s = t := by
  have hd : s.data.toList = t.data.toList := by
    refine List.map_inj_right (f := fun b : UInt8 => (b.toNat : Int)) (fun a b hab => ?_) |>.1 h
    have hab2 : (a.toNat : Int) = b.toNat := hab
    exact UInt8.toNat_inj.1 (by omega)
  cases s; cases t
  simp only [ByteArray.mk.injEq]
  exact Array.toList_inj.1 hd
theorem bs_str {xs : List Int} (h : ∀ x ∈ xs, 0 ≤ x ∧ x ≤ 255) : bs (strOfNums xs) = xs := by
  unfold bs strOfNums
  simp only [List.map_map]
  conv => rhs; rw [← List.map_id xs]
  refine List.map_congr_left fun x hx => ?_
  have := h x hx
  simp only [Function.comp, id, UInt8.toNat_ofNat']
  omega
theorem str_bs (s : ByteArray) : strOfNums (bs s) = s := bs_inj (bs_str fun _ hx => bs_range hx)
theorem str_size (xs : List Int) : (strOfNums xs).size = xs.length := by
  show ((xs.map fun n => UInt8.ofNat n.toNat).toArray).size = xs.length
  simp
theorem bs_append (s t : ByteArray) : bs (s ++ t) = bs s ++ bs t := by
  simp [bs]
theorem bs_empty : bs (⟨#[]⟩ : ByteArray) = [] := rfl
theorem bt_str {xs : List Int} (h : ∀ x ∈ xs, 0 ≤ x ∧ x ≤ 255) (i : Nat) (hi : i < xs.length) : bt (strOfNums xs) i = rd xs i := by
  have h1 := bs_get (strOfNums xs) i (by rw [str_size]; exact hi)
  rw [bs_str h] at h1
  unfold rd
  rw [List.getD_eq_getElem?_getD, Int.toNat_natCast, h1]
  rfl
theorem bt_bs (s : ByteArray) (i : Int) : bt s i = rd (bs s) i := by
  unfold rd
  rw [List.getD_eq_getElem?_getD]
  by_cases h : i.toNat < s.size
  · have := bs_get s i.toNat h
    rw [this]
    unfold bt
    simp only [Int.toNat_natCast]
    rw [dif_pos h]
    rfl
  · rw [List.getElem?_eq_none (by rw [bs_length]; omega)]
    unfold bt
    rw [dif_neg h]
    rfl
theorem toList_eq {s t : ByteArray} : s.toList = t.toList ↔ s = t := by
  rw [ByteArray.toList_eq, ByteArray.toList_eq]
  constructor
  · intro h; cases s; cases t; simpa [Array.toList_inj] using h
  · rintro rfl; rfl
theorem tdiv_e {n : Int} (h : 0 ≤ n) (m : Int) : Int.tdiv n m = n / m := Int.tdiv_eq_ediv_of_nonneg h
theorem tmod_e {n : Int} (h : 0 ≤ n) (m : Int) : Int.tmod n m = n % m := Int.tmod_eq_emod_of_nonneg h

/-! ### lists -/
theorem drop_get {α : Type} (xs : List α) (i : Nat) (h : i < xs.length) : xs.drop i = xs[i] :: xs.drop (i + 1) := List.drop_eq_getElem_cons h
theorem w64_len {i n : Nat} (h : i < n) (hn : n ≤ 9223372036854775807) : wrap64 ((i : Int) + 1) = ((i + 1 : Nat) : Int) := by
  rw [w64 (by omega) (by omega)]; omega
theorem take_set {α : Type} (acc : List α) (i : Nat) (v : α) (h : i < acc.length) : (acc.set i v).take (i + 1) = acc.take i ++ [v] := by
  rw [List.take_add_one, List.getElem?_set_self h, List.take_set_of_le (Nat.le_refl i)]; rfl

/-! ### gen -/
/-! ### loops told once: over a list, place by place -/
theorem gen_to {α β : Type} (L : Nat → List α → List β → Int → Option (List β)) (c : α → β) (xs : List α) (K : Nat)
    (hstep : ∀ (k i : Nat) (acc : List β) (h : i < xs.length), acc.length = xs.length → K ≤ k → L (k + 1) xs acc (i : Int) = L k xs (acc.set i (c xs[i])) ((i + 1 : Nat) : Int))
    (hend : ∀ (k : Nat) (acc : List β), L (k + 1) xs acc (xs.length : Int) = some acc) (k : Nat) (acc : List β) (hk : K + xs.length < k) (ha : acc.length = xs.length) : L k xs acc 0 = some (xs.map c) := by
  have go : ∀ (d k i : Nat) (acc : List β), xs.length - i ≤ d → K + d < k → i ≤ xs.length → acc.length = xs.length → acc.take i = (xs.take i).map c → L k xs acc (i : Int) = some (xs.map c) := by
    intro d
    induction d with
    | zero =>
      intro k i acc hd hk hi ha ht
      obtain ⟨k, rfl⟩ : ∃ m, k = m + 1 := ⟨k - 1, by omega⟩
      obtain rfl : i = xs.length := by omega
      rw [hend]
      rw [List.take_length, ← ha, List.take_length] at ht
      rw [ht]
    | succ d ih =>
      intro k i acc hd hk hi ha ht
      obtain ⟨k, rfl⟩ : ∃ m, k = m + 1 := ⟨k - 1, by omega⟩
      by_cases hi2 : i < xs.length
      · rw [hstep k i acc hi2 ha (by omega)]
        refine ih k (i + 1) _ (by omega) (by omega) (by omega) (by rw [List.length_set]; exact ha) ?_
        rw [take_set acc i _ (by omega), ht, List.take_add_one, List.getElem?_eq_getElem hi2, List.map_append]
        rfl
      · obtain rfl : i = xs.length := by omega
        rw [hend]
        rw [List.take_length, ← ha, List.take_length] at ht
        rw [ht]
  exact go xs.length k 0 acc (by omega) hk (by omega) ha (by simp)
theorem gen_eq {β : Type} (L : Nat → List β → List β → Int → Option Bool) (xs : List β) (K : Nat)
    (hstep : ∀ (k i : Nat), i < xs.length → K ≤ k → L (k + 1) xs xs (i : Int) = L k xs xs ((i + 1 : Nat) : Int))
    (hend : ∀ k : Nat, L (k + 1) xs xs (xs.length : Int) = some true) (k : Nat) (hk : K + xs.length < k) : L k xs xs 0 = some true := by
  have go : ∀ (d k i : Nat), xs.length - i ≤ d → K + d < k → i ≤ xs.length → L k xs xs (i : Int) = some true := by
    intro d
    induction d with
    | zero =>
      intro k i hd hk hi
      obtain ⟨k, rfl⟩ : ∃ m, k = m + 1 := ⟨k - 1, by omega⟩
      obtain rfl : i = xs.length := by omega
      exact hend k
    | succ d ih =>
      intro k i hd hk hi
      obtain ⟨k, rfl⟩ : ∃ m, k = m + 1 := ⟨k - 1, by omega⟩
      by_cases hi2 : i < xs.length
      · rw [hstep k i hi2 (by omega)]
        exact ih k (i + 1) (by omega) (by omega) (by omega)
      · obtain rfl : i = xs.length := by omega
        exact hend k
  exact go xs.length k 0 (by omega) hk (by omega)
theorem gen_sz {α : Type} (L : Nat → List α → Int → Int → Option Int) (xs : List α) (P : α → Prop) (K : Nat)
    (hstep : ∀ (k i : Nat) (left : Int) (h : i < xs.length), 0 ≤ left → left ≤ 1048576 → K ≤ k → L (k + 1) xs left (i : Int) = some (-1) ∨ ∃ t, 0 ≤ t ∧ t ≤ left ∧ P xs[i] ∧ L (k + 1) xs left (i : Int) = L k xs t ((i + 1 : Nat) : Int))
    (hend : ∀ (k : Nat) (left : Int), L (k + 1) xs left (xs.length : Int) = some left) (k : Nat) (left : Int) (hk : K + xs.length < k) (h0 : 0 ≤ left) (h1 : left ≤ 1048576) :
    L k xs left 0 = some (-1) ∨ ∃ r, L k xs left 0 = some r ∧ 0 ≤ r ∧ r ≤ left ∧ ∀ y ∈ xs, P y := by
  have go : ∀ (d k i : Nat) (left : Int), xs.length - i ≤ d → K + d < k → i ≤ xs.length → 0 ≤ left → left ≤ 1048576 → L k xs left (i : Int) = some (-1) ∨ ∃ r, L k xs left (i : Int) = some r ∧ 0 ≤ r ∧ r ≤ left ∧ ∀ y ∈ xs.drop i, P y := by
    intro d
    induction d with
    | zero =>
      intro k i left hd hk hi h0 h1
      obtain ⟨k, rfl⟩ : ∃ m, k = m + 1 := ⟨k - 1, by omega⟩
      obtain rfl : i = xs.length := by omega
      exact .inr ⟨left, hend k left, h0, Int.le_refl _, by simp⟩
    | succ d ih =>
      intro k i left hd hk hi h0 h1
      obtain ⟨k, rfl⟩ : ∃ m, k = m + 1 := ⟨k - 1, by omega⟩
      by_cases hi2 : i < xs.length
      · rcases hstep k i left hi2 h0 h1 (by omega) with h | ⟨t, t0, t1, hp, h⟩
        · exact .inl h
        · rw [h]
          rcases ih k (i + 1) t (by omega) (by omega) (by omega) t0 (by omega) with h | ⟨r, hr, r0, r1, ha⟩
          · exact .inl h
          · refine .inr ⟨r, hr, r0, by omega, fun y hy => ?_⟩
            rw [drop_get xs i hi2, List.mem_cons] at hy
            rcases hy with rfl | hy
            · exact hp
            · exact ha y hy
      · obtain rfl : i = xs.length := by omega
        exact .inr ⟨left, hend k left, h0, Int.le_refl _, by simp⟩
  have := go xs.length k 0 left (by omega) hk (by omega) h0 h1
  simpa using this

/-! ### lawsInt -/
theorem rdInt (xs : List Int) (i : Nat) (h : i < xs.length) : rd xs (i : Int) = xs[i] := by simp [rd, List.getD, h]
theorem szIntS_is (xs : List Int) (hl : xs.length ≤ 9223372036854775807) (left : Int) (h0 : 0 ≤ left) (h1 : left ≤ 1048576) : laws_szIntS.f xs left = some (-1) ∨ ∃ t, laws_szIntS.f xs left = some t ∧ 0 ≤ t ∧ t ≤ left ∧ xs.length ≤ 1048576 := by
  unfold laws_szIntS.f
  rw [w64 (n := left - (xs.length : Int)) (by omega) (by omega)]
  by_cases h : left - (xs.length : Int) < 0
  · rw [if_pos h]; exact .inl rfl
  · rw [if_neg h]; exact .inr ⟨_, rfl, by omega, by omega, by omega⟩
theorem toIntS_is (xs : List Int) (hl : xs.length ≤ 1048576) (k : Nat) (hk : xs.length < k) : laws_toIntS.f k xs = some xs := by
  unfold laws_toIntS.f
  rw [if_pos (by omega), if_pos (by omega)]
  have h := gen_to (fun k x a i => laws_toIntS.l0 k x a i) id xs 0 (fun k i acc h ha _ => by
      show laws_toIntS.l0 (k + 1) xs acc (i : Int) = _
      rw [laws_toIntS.l0, if_pos (by omega), if_pos (by omega), if_pos (by omega), rdInt xs i h, w64_len h (by omega)]; rfl)
    (fun k acc => by show laws_toIntS.l0 (k + 1) xs acc _ = _; rw [laws_toIntS.l0, if_neg (by omega)]) k (List.replicate ((xs.length : Int)).toNat 0) (by omega) (by simp)
  rw [List.map_id] at h
  exact h
theorem eqIntS_self (xs : List Int) (hl : xs.length ≤ 9223372036854775807) (k : Nat) (hk : xs.length < k) : laws_eqIntS.f k xs xs = some true := by
  unfold laws_eqIntS.f
  rw [if_pos rfl]
  exact gen_eq (fun k x a i => laws_eqIntS.l0 k x a i) xs 0 (fun k i h _ => by
      show laws_eqIntS.l0 (k + 1) xs xs (i : Int) = _
      rw [laws_eqIntS.l0, if_pos (by omega), if_pos (by omega), if_pos (by omega), if_pos rfl, w64_len h hl])
    (fun k => by show laws_eqIntS.l0 (k + 1) xs xs _ = _; rw [laws_eqIntS.l0, if_neg (by omega)]) k (by omega)

/-! ### lawsTree -/
/-! what the laws' own small functions tell of trees -/
theorem rdTL (xs : List S132) (i : Nat) (h : i < xs.length) : rd_T132 xs (i : Int) = xs[i] := by simp [rd_T132, List.getD, h]
theorem rdTI (xs : List S108) (i : Nat) (h : i < xs.length) : rd_T108 xs (i : Int) = xs[i] := by simp [rd_T108, List.getD, h]
def small2 (y : S132) : Prop := y.f2.length ≤ 1048576 ∧ y.f5.length ≤ 1048576
theorem szTreeNode_is (y : S132) (h2 : y.f2.length ≤ 9223372036854775807) (h5 : y.f5.length ≤ 9223372036854775807) (left : Int) (h0 : 0 ≤ left) (h1 : left ≤ 1048576) :
    laws_szTreeNode.f y.f0 y.f1 y.f2 y.f3 y.f4 y.f5 left = some (-1) ∨ ∃ t, laws_szTreeNode.f y.f0 y.f1 y.f2 y.f3 y.f4 y.f5 left = some t ∧ 0 ≤ t ∧ t ≤ left ∧ small2 y := by
  unfold laws_szTreeNode.f
  rcases szIntS_is y.f2 h2 left h0 h1 with h | ⟨t, h, t0, t1, l2⟩
  · rw [h, Option.bind_some, if_pos (by omega)]; exact .inl rfl
  · rw [h, Option.bind_some, if_neg (by omega)]
    rcases szIntS_is y.f5 h5 t t0 (by omega) with h | ⟨u, h, u0, u1, l5⟩
    · rw [h, Option.bind_some, if_pos (by omega)]; exact .inl rfl
    · rw [h, Option.bind_some, if_neg (by omega)]; exact .inr ⟨u, rfl, u0, by omega, l2, l5⟩
def szTreeOk (xs : List S132) : Prop := xs.length ≤ 1048576 ∧ ∀ y ∈ xs, small2 y
theorem szTree_is (xs : List S132) (hx : ∀ y ∈ xs, ok132 y) (hl : xs.length ≤ 9223372036854775807) (left : Int) (h0 : 0 ≤ left) (h1 : left ≤ 1048576) (k : Nat) (hk : xs.length < k) :
    laws_szTree.f k xs left = some (-1) ∨ ∃ r, laws_szTree.f k xs left = some r ∧ 0 ≤ r ∧ r ≤ left ∧ szTreeOk xs := by
  unfold laws_szTree.f laws_szTreeNodeS.f
  rw [w64 (n := left - (xs.length : Int)) (by omega) (by omega)]
  by_cases h2 : left - (xs.length : Int) < 0
  · rw [if_pos h2, Option.bind_some, if_pos (by omega)]; exact .inl rfl
  · rw [if_neg h2]
    have g := gen_sz (fun k x a i => laws_szTreeNodeS.l0 k x a i) xs small2 0 (fun k i left h h0 h1 _ => by
        show laws_szTreeNodeS.l0 (k + 1) xs left (i : Int) = _ ∨ ∃ t, _ ∧ _ ∧ _ ∧ laws_szTreeNodeS.l0 (k + 1) xs left (i : Int) = laws_szTreeNodeS.l0 k xs t ((i + 1 : Nat) : Int)
        have ho := hx xs[i] (List.getElem_mem h)
        have m2 : xs[i].f2.length ≤ 9223372036854775807 := by have := ho.2.2.1.2; unfold maxLen at this; exact this
        have m5 : xs[i].f5.length ≤ 9223372036854775807 := by have := ho.2.2.2.2.2.2; unfold maxLen at this; exact this
        rw [laws_szTreeNodeS.l0, if_pos (by omega), if_pos (by omega), rdTL xs i h, w64_len h hl]
        rcases szTreeNode_is xs[i] m2 m5 left h0 h1 with e | ⟨t, e, t0, t1, p⟩
        · rw [e, Option.bind_some, if_pos (by omega)]; exact .inl rfl
        · rw [e, Option.bind_some, if_neg (by omega)]; exact .inr ⟨t, t0, t1, p, rfl⟩)
      (fun k left => by show laws_szTreeNodeS.l0 (k + 1) xs left _ = _; rw [laws_szTreeNodeS.l0, if_neg (by omega)]) k (left - (xs.length : Int)) (by omega) (by omega) (by omega)
    rcases g with g | ⟨r, g, r0, r1, ha⟩
    · rw [show laws_szTreeNodeS.l0 k xs (left - (xs.length : Int)) 0 = some (-1) from g, Option.bind_some, if_pos (by omega)]; exact .inl rfl
    · rw [show laws_szTreeNodeS.l0 k xs (left - (xs.length : Int)) 0 = some r from g, Option.bind_some, if_neg (by omega)]; exact .inr ⟨r, rfl, r0, by omega, by omega, ha⟩
def toTN (x : S132) : S108 := ⟨x.f0, x.f1, x.f2, x.f3, x.f4, x.f5⟩
theorem toTree_is (xs : List S132) (hz : szTreeOk xs) (k : Nat) (hk : 1048577 + xs.length < k) : laws_toTree.f k xs = some (xs.map toTN) := by
  obtain ⟨hl, ha⟩ := hz
  unfold laws_toTree.f laws_toTreeNodeS.f
  rw [if_pos (by omega), if_pos (by omega)]
  have h := gen_to (fun k x a i => laws_toTreeNodeS.l0 k x a i) toTN xs 1048577 (fun k i acc h hacc hk => by
      show laws_toTreeNodeS.l0 (k + 1) xs acc (i : Int) = _
      have p := ha xs[i] (List.getElem_mem h)
      rw [laws_toTreeNodeS.l0, if_pos (by omega), if_pos (by omega), rdTL xs i h, w64_len h (by omega)]
      unfold laws_toTreeNode.f
      have p1 := p.1
      have p2 := p.2
      rw [toIntS_is _ p1 k (by omega), Option.bind_some, toIntS_is _ p2 k (by omega), Option.bind_some, Option.bind_some, if_pos (by omega)]
      rfl)
    (fun k acc => by show laws_toTreeNodeS.l0 (k + 1) xs acc _ = _; rw [laws_toTreeNodeS.l0, if_neg (by omega)]) k (List.replicate ((xs.length : Int)).toNat z108)
  by_cases hk2 : 1048577 + xs.length < k
  · rw [show laws_toTreeNodeS.l0 k xs (List.replicate ((xs.length : Int)).toNat z108) 0 = _ from h hk2 (by simp)]; rfl
  · exfalso; omega
def smallI (xs : List S108) : Prop := xs.length ≤ 1048576 ∧ ∀ y ∈ xs, y.f2.length ≤ 1048576 ∧ y.f5.length ≤ 1048576
theorem smallI_of {xs : List S132} (h : szTreeOk xs) : smallI (xs.map toTN) := by
  refine ⟨by rw [List.length_map]; exact h.1, fun y hy => ?_⟩
  obtain ⟨x, hx, rfl⟩ := List.mem_map.1 hy
  exact h.2 x hx
theorem eqTree_self (xs : List S108) (hz : smallI xs) (k : Nat) (hk : 1048577 + xs.length < k) : laws_eqTree.f k xs xs = some true := by
  unfold laws_eqTree.f laws_eqTreeNodeS.f
  rw [if_pos rfl]
  have h := gen_eq (fun k x a i => laws_eqTreeNodeS.l0 k x a i) xs 1048577 (fun k i h hk => by
      show laws_eqTreeNodeS.l0 (k + 1) xs xs (i : Int) = _
      have p := hz.2 xs[i] (List.getElem_mem h)
      have p1 := p.1
      have p2 := p.2
      have hl := hz.1
      rw [laws_eqTreeNodeS.l0, if_pos (by omega), if_pos (by omega), if_pos (by omega), rdTI xs i h, w64_len h (by omega)]
      unfold laws_eqTreeNode.f
      rw [if_pos rfl, if_pos rfl, eqIntS_self _ (by omega) k (by omega), Option.bind_some, if_pos rfl, if_pos rfl, if_pos rfl, eqIntS_self _ (by omega) k (by omega), Option.bind_some, if_pos rfl, Option.bind_some, if_pos rfl])
    (fun k => by show laws_eqTreeNodeS.l0 (k + 1) xs xs _ = _; rw [laws_eqTreeNodeS.l0, if_neg (by omega)]) k (by omega)
  rw [show laws_eqTreeNodeS.l0 k xs xs 0 = _ from h]
  rfl

/-! ### ev -/
theorem Ev.shift {α : Type} {g f : Nat → Option α} {r : α} (c : Nat) (h : ∀ k, g (k + c) = f k) (k : Ev f r) : Ev g r := by
  obtain ⟨K, k⟩ := k
  refine ⟨K + c, fun n hn => ?_⟩
  obtain ⟨m, rfl⟩ : ∃ m, n = m + c := ⟨n - c, by omega⟩
  rw [h]
  exact k m (by omega)
theorem Ev.from {α : Type} {g : Nat → Option α} {r : α} (B : Nat) (h : ∀ k, B < k → g k = some r) : Ev g r := ⟨B + 1, fun k hk => h k (by omega)⟩
theorem Ev.always {α : Type} {g : Nat → Option α} {r : α} (h : ∀ k, g k = some r) : Ev g r := ⟨0, fun k _ => h k⟩

/-! ### within -/
theorem within_is (a b c : Int) : impl_within.f a b c = some (decide (b ≤ a ∧ a ≤ c)) := by
  unfold impl_within.f
  by_cases h : a ≥ b
  · rw [if_pos h]; simp [show b ≤ a from h]
  · rw [if_neg h]; simp [show ¬ b ≤ a from h]

/-! ### kidsAhead -/
def kidIn (i : Nat) (c : Int) : Bool := decide (0 ≤ c ∧ c ≤ (i : Int) - 1)
def kidsIn (i : Nat) (ks : List Int) : Bool := ks.all (kidIn i)
theorem kidsIn_cons (i : Nat) (c : Int) (ks : List Int) : kidsIn i (c :: ks) = (kidIn i c && kidsIn i ks) := by simp [kidsIn]
theorem implKidsAhead_is (ks : List Int) (hl : ks.length ≤ 1048576) (i : Nat) (hi : i ≤ 9223372036854775807) (k : Nat) (hk : ks.length < k) : impl_kidsAhead.f k ks (i : Int) = some (kidsIn i ks) := by
  have go : ∀ (d k j : Nat), ks.length - j ≤ d → d < k → impl_kidsAhead.l0 k (i : Int) ks (ks.length : Int) (j : Int) = some (kidsIn i (ks.drop j)) := by
    intro d
    induction d with
    | zero =>
      intro k j hd hk
      obtain ⟨k, rfl⟩ : ∃ m, k = m + 1 := ⟨k - 1, by omega⟩
      rw [impl_kidsAhead.l0, if_neg (by omega), List.drop_eq_nil_of_le (by omega)]; rfl
    | succ d ih =>
      intro k j hd hk
      obtain ⟨k, rfl⟩ : ∃ m, k = m + 1 := ⟨k - 1, by omega⟩
      by_cases hj : j < ks.length
      · rw [impl_kidsAhead.l0, if_pos (by omega), if_pos (by omega), if_pos (by omega), rdInt ks j hj, within_is, Option.bind_some, w64 (n := (i : Int) - 1) (by omega) (by omega), w64_len hj (by omega), ih k (j + 1) (by omega) (by omega), drop_get ks j hj, kidsIn_cons]
        rw [show decide (0 ≤ ks[j] ∧ ks[j] ≤ (i : Int) - 1) = kidIn i ks[j] from rfl]
        by_cases hc : kidIn i ks[j] = true
        · rw [if_pos hc, hc, Bool.true_and]
        · rw [if_neg hc, show kidIn i ks[j] = false from by simpa using hc, Bool.false_and]
      · rw [impl_kidsAhead.l0, if_neg (by omega), List.drop_eq_nil_of_le (by omega)]; rfl
  unfold impl_kidsAhead.f
  exact go ks.length k 0 (by omega) hk

/-! ### heights -/
def nodesIn : Nat → List S108 → Bool
  | _, [] => true
  | i, y :: l => kidsIn i y.f5 && nodesIn (i + 1) l
def high (hs : List Int) (n : Int) (ks : List Int) : Int := ks.foldl (fun n c => mx n (rd hs c)) n
def lastOf (hs : List Int) : Int := rd hs ((hs.length : Int) - 1)
/-- The height, the heights of the nodes ahead at hand; 0 of no tree, and where a Kid isn't ahead of its node. -/
def heightGo (hs : List Int) : List S108 → Int
  | [] => if hs.length = 0 then 0 else lastOf hs
  | y :: l => if kidsIn hs.length y.f5 then heightGo (hs ++ [high hs 0 y.f5 + 1]) l else 0
def lowHs (hs : List Int) : Prop := ∀ h ∈ hs, 0 ≤ h ∧ h ≤ hs.length
theorem rd_mem (hs : List Int) (c : Int) (h0 : 0 ≤ c) (h1 : c < hs.length) : rd hs c ∈ hs := by
  obtain ⟨n, rfl⟩ := Int.eq_ofNat_of_zero_le h0
  rw [rdInt hs n (by omega)]
  exact List.getElem_mem _
theorem high_range (hs : List Int) (hh : lowHs hs) (ks : List Int) : ∀ n : Int, 0 ≤ n ∧ n ≤ hs.length → kidsIn hs.length ks = true → 0 ≤ high hs n ks ∧ high hs n ks ≤ hs.length := by
  induction ks with
  | nil => intro n hn _; exact hn
  | cons c ks ih =>
    intro n hn hk
    simp only [kidsIn, List.all_cons, Bool.and_eq_true] at hk
    have hc : 0 ≤ c ∧ c ≤ (hs.length : Int) - 1 := by simpa [kidIn] using hk.1
    have := hh _ (rd_mem hs c hc.1 (by omega))
    refine ih (mx n (rd hs c)) ?_ hk.2
    unfold mx; split <;> omega
theorem lowHs_snoc (hs : List Int) (hh : lowHs hs) (h : Int) (h0 : 0 ≤ h ∧ h ≤ hs.length) : lowHs (hs ++ [h + 1]) := by
  intro x hx
  rw [List.length_append, List.length_singleton]
  simp only [List.mem_append, List.mem_singleton] at hx
  rcases hx with hx | rfl
  · have := hh x hx; omega
  · omega
theorem heightGo_no (l : List S108) : ∀ hs : List Int, nodesIn hs.length l = false → heightGo hs l = 0 := by
  induction l with
  | nil => intro hs h; simp [nodesIn] at h
  | cons y l ih =>
    intro hs h
    show (if kidsIn hs.length y.f5 then heightGo (hs ++ [high hs 0 y.f5 + 1]) l else 0) = 0
    by_cases hk : kidsIn hs.length y.f5 = true
    · rw [if_pos hk]
      refine ih _ ?_
      simp only [nodesIn, hk, Bool.true_and] at h
      rw [List.length_append, List.length_singleton]
      exact h
    · rw [if_neg hk]

/-! ### l01In -/
theorem l01In_is (a b c : Int) : spec_l01In.f a b c = some (decide (b ≤ a ∧ a ≤ c)) := by
  unfold spec_l01In.f
  by_cases h : a ≥ b
  · rw [if_pos h]; simp [show b ≤ a from h]
  · rw [if_neg h]; simp [show ¬ b ≤ a from h]

/-! ### specHeightOf -/
theorem specHeight_l1 (xs : List S108) (hz : smallI xs) (hs : List Int) (hh : lowHs hs) (hi : hs.length < xs.length) (r : Nat) : ∀ (k j : Nat) (n : Int), (xs[hs.length]'hi).f5.length - j = r → j ≤ (xs[hs.length]'hi).f5.length → 0 ≤ n ∧ n ≤ hs.length →
    spec_HeightOf.l1 (k + r + 1) hs (hs.length : Int) n (j : Int) xs = if kidsIn hs.length ((xs[hs.length]'hi).f5.drop j) then spec_HeightOf.l0 k (hs ++ [high hs n ((xs[hs.length]'hi).f5.drop j) + 1]) ((hs.length + 1 : Nat) : Int) xs else some 0 := by
  have hl := hz.1
  have h5 := (hz.2 _ (List.getElem_mem hi)).2
  induction r with
  | zero =>
    intro k j n hr hj hn
    rw [spec_HeightOf.l1, if_pos (by omega), if_pos (by omega), rdTI xs _ hi, if_neg (by omega), List.drop_eq_nil_of_le (by omega), if_pos (by omega)]
    rw [w64 (n := n + 1) (by omega) (by omega), w64_len hi (by omega)]
    rfl
  | succ r ih =>
    intro k j n hr hj hn
    have hj2 : j < (xs[hs.length]'hi).f5.length := by omega
    rw [show k + (r + 1) + 1 = (k + r + 1) + 1 from by omega, spec_HeightOf.l1, if_pos (by omega), if_pos (by omega), rdTI xs _ hi, if_pos (by omega), if_pos (by omega), rdInt _ j hj2, l01In_is, Option.bind_some,
      w64 (n := (hs.length : Int) - 1) (by omega) (by omega), drop_get _ j hj2, kidsIn_cons]
    rw [show decide (0 ≤ (xs[hs.length]'hi).f5[j] ∧ (xs[hs.length]'hi).f5[j] ≤ (hs.length : Int) - 1) = kidIn hs.length (xs[hs.length]'hi).f5[j] from rfl]
    by_cases hc : kidIn hs.length (xs[hs.length]'hi).f5[j] = true
    · have hc2 : 0 ≤ (xs[hs.length]'hi).f5[j] ∧ (xs[hs.length]'hi).f5[j] ≤ (hs.length : Int) - 1 := by simpa [kidIn] using hc
      have hm := hh _ (rd_mem hs _ hc2.1 (by omega))
      rw [if_pos hc, if_pos hc2.1, if_pos (by omega), hc, Bool.true_and, w64_len hj2 (by omega)]
      have e := ih k (j + 1) (mx n (rd hs (xs[hs.length]'hi).f5[j])) (by omega) (by omega) (by unfold mx; split <;> omega)
      rw [show high hs n ((xs[hs.length]'hi).f5[j] :: (xs[hs.length]'hi).f5.drop (j + 1)) = high hs (mx n (rd hs (xs[hs.length]'hi).f5[j])) ((xs[hs.length]'hi).f5.drop (j + 1)) from rfl, ← e]
      unfold mx
      by_cases hg : rd hs (xs[hs.length]'hi).f5[j] > n
      · rw [if_pos hg, if_pos (by omega)]
      · rw [if_neg hg, if_neg (by omega)]
    · rw [if_neg hc]; simp [hc]
theorem specHeight_l0 (xs : List S108) (hz : smallI xs) (d : Nat) : ∀ (hs : List Int), lowHs hs → xs.length - hs.length = d → hs.length ≤ xs.length →
    Ev (fun k => spec_HeightOf.l0 k hs (hs.length : Int) xs) (heightGo hs (xs.drop hs.length)) := by
  have hl := hz.1
  induction d with
  | zero =>
    intro hs hh hd hle
    rw [List.drop_eq_nil_of_le (show xs.length ≤ hs.length by omega)]
    show Ev _ (if hs.length = 0 then 0 else lastOf hs)
    refine Ev.shift 1 (f := fun _ => some (if hs.length = 0 then 0 else lastOf hs)) (fun k => ?_) (Ev.now _)
    rw [spec_HeightOf.l0, if_neg (by omega)]
    by_cases h0 : hs.length = 0
    · rw [if_pos (by omega), if_pos h0]
    · rw [if_neg (by omega), if_neg h0, w64 (by omega) (by omega), if_pos (by omega), if_pos (by omega)]; rfl
  | succ d ih =>
    intro hs hh hd hle
    have hi : hs.length < xs.length := by omega
    have e1 := specHeight_l1 xs hz hs hh hi (xs[hs.length]'hi).f5.length
    have e2 : ∀ k, spec_HeightOf.l0 (k + ((xs[hs.length]'hi).f5.length + 2)) hs (hs.length : Int) xs = if kidsIn hs.length (xs[hs.length]'hi).f5 then spec_HeightOf.l0 k (hs ++ [high hs 0 (xs[hs.length]'hi).f5 + 1]) ((hs.length + 1 : Nat) : Int) xs else some 0 := by
      intro k
      have e := e1 k 0 0 (by omega) (by omega) (by omega)
      rw [List.drop_zero] at e
      rw [show k + ((xs[hs.length]'hi).f5.length + 2) = (k + (xs[hs.length]'hi).f5.length + 1) + 1 from by omega, spec_HeightOf.l0, if_pos (by omega)]
      exact e
    refine Ev.shift _ e2 ?_
    rw [drop_get xs _ hi]
    show Ev _ (if kidsIn hs.length (xs[hs.length]'hi).f5 then heightGo (hs ++ [high hs 0 (xs[hs.length]'hi).f5 + 1]) (xs.drop (hs.length + 1)) else 0)
    by_cases hk : kidsIn hs.length (xs[hs.length]'hi).f5 = true
    · have hr := high_range hs hh (xs[hs.length]'hi).f5 0 (by omega) hk
      have e3 := ih (hs ++ [high hs 0 (xs[hs.length]'hi).f5 + 1]) (lowHs_snoc hs hh _ hr) (by rw [List.length_append, List.length_singleton]; omega) (by rw [List.length_append, List.length_singleton]; omega)
      rw [List.length_append, List.length_singleton] at e3
      rw [if_pos hk]
      exact Ev.congr (fun k => if_pos hk) e3
    · rw [if_neg hk]
      exact Ev.congr (f := fun _ => some 0) (fun k => if_neg hk) (Ev.now _)
/-- The height of a tree. -/
theorem specHeightOf_ev (xs : List S108) (hz : smallI xs) : Ev (fun k => spec_HeightOf.f k xs) (heightGo [] xs) :=
  specHeight_l0 xs hz xs.length [] (fun h hm => by simp at hm) (by simp) (by simp)

/-! ### implHeightOf -/
theorem implKidsRight_is (xs : List S108) (hz : smallI xs) (k : Nat) (hk : xs.length + 1048577 < k) : impl_kidsRight.f k xs = some (nodesIn 0 xs) := by
  have hl := hz.1
  have go : ∀ (d k i : Nat), xs.length - i ≤ d → d + 1048577 < k → impl_kidsRight.l0 k xs (xs.length : Int) (i : Int) = some (nodesIn i (xs.drop i)) := by
    intro d
    induction d with
    | zero =>
      intro k i hd hk
      obtain ⟨k, rfl⟩ : ∃ m, k = m + 1 := ⟨k - 1, by omega⟩
      rw [impl_kidsRight.l0, if_neg (by omega), List.drop_eq_nil_of_le (by omega)]; rfl
    | succ d ih =>
      intro k i hd hk
      obtain ⟨k, rfl⟩ : ∃ m, k = m + 1 := ⟨k - 1, by omega⟩
      by_cases hi : i < xs.length
      · have h5 := (hz.2 _ (List.getElem_mem hi)).2
        rw [impl_kidsRight.l0, if_pos (by omega), if_pos (by omega), if_pos (by omega), rdTI xs i hi, implKidsAhead_is _ h5 i (by omega) k (by omega), Option.bind_some, w64_len hi (by omega), ih k (i + 1) (by omega) (by omega), drop_get xs i hi]
        show _ = some (kidsIn i xs[i].f5 && nodesIn (i + 1) (xs.drop (i + 1)))
        by_cases hc : kidsIn i xs[i].f5 = true
        · rw [if_pos hc, hc, Bool.true_and]
        · rw [if_neg hc, show kidsIn i xs[i].f5 = false from by simpa using hc, Bool.false_and]
      · rw [impl_kidsRight.l0, if_neg (by omega), List.drop_eq_nil_of_le (by omega)]; rfl
  unfold impl_kidsRight.f
  exact go xs.length k 0 (by omega) (by omega)
theorem implHeight_l1 (xs : List S108) (hl : xs.length ≤ 1048576) (hs : List Int) (hh : lowHs hs) (hi : hs.length < xs.length) (ks : List Int) (h5 : ks.length ≤ 1048576) (r : Nat) : ∀ (k j : Nat) (n : Int), ks.length - j = r → j ≤ ks.length → 0 ≤ n ∧ n ≤ hs.length → kidsIn hs.length (ks.drop j) = true →
    impl_HeightOf.l1 (k + r + 1) hs n xs (xs.length : Int) (hs.length : Int) ks (ks.length : Int) (j : Int) = impl_HeightOf.l0 k (hs ++ [high hs n (ks.drop j) + 1]) xs (xs.length : Int) ((hs.length + 1 : Nat) : Int) := by
  induction r with
  | zero =>
    intro k j n hr hj hn _
    rw [impl_HeightOf.l1, if_neg (by omega), List.drop_eq_nil_of_le (by omega), if_pos (by omega)]
    rw [w64 (n := n + 1) (by omega) (by omega), w64_len hi (by omega)]
    rfl
  | succ r ih =>
    intro k j n hr hj hn hk
    have hj2 : j < ks.length := by omega
    rw [drop_get _ j hj2, kidsIn_cons, Bool.and_eq_true] at hk
    have hc2 : 0 ≤ ks[j] ∧ ks[j] ≤ (hs.length : Int) - 1 := by simpa [kidIn] using hk.1
    have hm := hh _ (rd_mem hs _ hc2.1 (by omega))
    rw [show k + (r + 1) + 1 = (k + r + 1) + 1 from by omega, impl_HeightOf.l1, if_pos (by omega), if_pos (by omega), if_pos (by omega), rdInt _ j hj2, if_pos hc2.1, if_pos (by omega), w64_len hj2 (by omega), drop_get _ j hj2]
    rw [ih k (j + 1) (mx n (rd hs ks[j])) (by omega) (by omega) (by unfold mx; split <;> omega) hk.2]
    rfl
theorem implHeight_l0 (xs : List S108) (hz : smallI xs) (d : Nat) : ∀ (hs : List Int), lowHs hs → xs.length - hs.length = d → hs.length ≤ xs.length → 0 < xs.length → nodesIn hs.length (xs.drop hs.length) = true →
    Ev (fun k => impl_HeightOf.l0 k hs xs (xs.length : Int) (hs.length : Int)) (heightGo hs (xs.drop hs.length)) := by
  have hl := hz.1
  induction d with
  | zero =>
    intro hs hh hd hle hp _
    rw [List.drop_eq_nil_of_le (show xs.length ≤ hs.length by omega)]
    show Ev _ (if hs.length = 0 then 0 else lastOf hs)
    refine Ev.shift 1 (f := fun _ => some (if hs.length = 0 then 0 else lastOf hs)) (fun k => ?_) (Ev.now _)
    rw [impl_HeightOf.l0, if_neg (by omega), if_neg (show ¬ hs.length = 0 by omega), w64 (by omega) (by omega), if_pos (by omega), if_pos (by omega)]; rfl
  | succ d ih =>
    intro hs hh hd hle hp hn
    have hi : hs.length < xs.length := by omega
    have h5 := (hz.2 _ (List.getElem_mem hi)).2
    rw [drop_get xs _ hi] at hn
    have hn2 : kidsIn hs.length (xs[hs.length]'hi).f5 = true ∧ nodesIn (hs.length + 1) (xs.drop (hs.length + 1)) = true := by simpa [nodesIn] using hn
    have e2 : ∀ k, impl_HeightOf.l0 (k + ((xs[hs.length]'hi).f5.length + 2)) hs xs (xs.length : Int) (hs.length : Int) = impl_HeightOf.l0 k (hs ++ [high hs 0 (xs[hs.length]'hi).f5 + 1]) xs (xs.length : Int) ((hs.length + 1 : Nat) : Int) := by
      intro k
      have e := implHeight_l1 xs hl hs hh hi _ h5 _ k 0 0 rfl (by omega) (by omega) (by rw [List.drop_zero]; exact hn2.1)
      rw [List.drop_zero, Nat.sub_zero] at e
      rw [show k + ((xs[hs.length]'hi).f5.length + 2) = (k + (xs[hs.length]'hi).f5.length + 1) + 1 from by omega, impl_HeightOf.l0, if_pos (by omega), if_pos (by omega), if_pos (by omega), rdTI xs _ hi]
      exact e
    refine Ev.shift _ e2 ?_
    rw [drop_get xs _ hi]
    show Ev _ (if kidsIn hs.length (xs[hs.length]'hi).f5 then heightGo (hs ++ [high hs 0 (xs[hs.length]'hi).f5 + 1]) (xs.drop (hs.length + 1)) else 0)
    rw [if_pos hn2.1]
    have hr := high_range hs hh (xs[hs.length]'hi).f5 0 (by omega) hn2.1
    have e3 := ih (hs ++ [high hs 0 (xs[hs.length]'hi).f5 + 1]) (lowHs_snoc hs hh _ hr) (by rw [List.length_append, List.length_singleton]; omega) (by rw [List.length_append, List.length_singleton]; omega) hp (by rw [List.length_append, List.length_singleton]; exact hn2.2)
    rw [List.length_append, List.length_singleton] at e3
    exact e3
theorem implHeightOf_ev (xs : List S108) (hz : smallI xs) : Ev (fun k => impl_HeightOf.f k xs) (heightGo [] xs) := by
  unfold impl_HeightOf.f
  by_cases h0 : xs.length = 0
  · obtain rfl : xs = [] := List.eq_nil_of_length_eq_zero h0
    refine Ev.shift 1 (f := fun _ => some 0) (fun k => ?_) (Ev.now _)
    rw [if_pos (by simp), impl_HeightOf.j0, if_pos (by rfl)]
  · refine Ev.congr (fun k => if_neg (by omega)) ?_
    refine Ev.bind (Ev.from (xs.length + 1048577) (implKidsRight_is xs hz)) ?_
    by_cases hn : nodesIn 0 xs = true
    · refine Ev.shift 1 (f := fun k => impl_HeightOf.l0 k [] xs (xs.length : Int) 0) (fun k => ?_) (implHeight_l0 xs hz xs.length [] (fun h hm => by simp at hm) (by simp) (by simp) (by omega) hn)
      rw [impl_HeightOf.j0, hn, if_neg (by simp)]
    · have hn' : nodesIn 0 xs = false := by simpa using hn
      rw [heightGo_no xs [] hn']
      refine Ev.shift 1 (f := fun _ => some 0) (fun k => ?_) (Ev.now _)
      rw [impl_HeightOf.j0, hn', if_pos (by rfl)]

/-! ### FnExactHeightOf -/
theorem FnExactHeightOf : laws_FnExactHeightOf.Pure := by
  intro xs hx hl
  have hl : xs.length ≤ 9223372036854775807 := by unfold maxLen at hl; exact hl
  refine Ev.rounds (r := true) ?_
  unfold laws_FnExactHeightOf.f
  by_cases hb : ∃ k, xs.length < k ∧ laws_szTree.f k xs 1048576 = some (-1)
  · obtain ⟨k0, hk0, h⟩ := hb
    have e : Ev (fun k => laws_szTree.f k xs 1048576) (-1) := by
      refine Ev.from xs.length (fun k hk => ?_)
      rcases szTree_is xs hx hl 1048576 (by omega) (by omega) k hk with e | ⟨r, e, r0, _, _⟩
      · exact e
      · have m := laws_szTree.mono xs 1048576
        exfalso
        have a1 : laws_szTree.f (max k k0) xs 1048576 = some r := at_rounds (m) (Nat.le_max_left ..) e
        have a2 : laws_szTree.f (max k k0) xs 1048576 = some (-1) := at_rounds (m) (Nat.le_max_right ..) h
        rw [a1] at a2
        have := Option.some.inj a2
        omega
    refine Ev.bind e ?_
    exact Ev.congr (f := fun _ => some true) (fun k => if_pos (by omega)) (Ev.now _)
  · have hz : szTreeOk xs ∧ ∃ r, 0 ≤ r ∧ Ev (fun k => laws_szTree.f k xs 1048576) r := by
      rcases szTree_is xs hx hl 1048576 (by omega) (by omega) (xs.length + 1) (by omega) with e | ⟨r, e, r0, _, hz⟩
      · exact absurd ⟨_, by omega, e⟩ hb
      · exact ⟨hz, r, r0, Ev.of (laws_szTree.mono xs 1048576) e⟩
    obtain ⟨hz, r, r0, e⟩ := hz
    have hi := smallI_of hz
    have et : Ev (fun k => laws_toTree.f k xs) (xs.map toTN) := Ev.from (1048577 + xs.length) (toTree_is xs hz)
    refine Ev.bind e (Ev.congr (fun k => if_neg (by omega)) ?_)
    refine Ev.bind et (Ev.bind (specHeightOf_ev _ hi) (Ev.bind et (Ev.bind (implHeightOf_ev _ hi) ?_)))
    refine Ev.congr (fun k => if_pos rfl) (Ev.bind et (Ev.bind (Ev.from (1048577 + (xs.map toTN).length) (eqTree_self _ hi)) ?_))
    exact Ev.congr (f := fun _ => some true) (fun k => if_pos rfl) (Ev.now _)

end Go.Proofs.Ytigibdkgimgknaa.Pure
