/- FnExactFreeOf without Go: at every expression the program's FreeOf and the reference's answer the same; what one call gave stays as it was behind another. -/
import Derived.Test.YtnmhggdaccbbfaaMFnExactFreeOfok
import Derived.Lib.SlicesCompact
import Derived.Sort.Walk0
set_option linter.unusedVariables false
set_option linter.unusedSimpArgs false
set_option maxHeartbeats 400000
namespace Go.Proofs.Ytnmhggdaccbbfaa.Pure
open Go.RowKit Go.Proofs.Ytnmhggdaccbbfaa.MFnExactFreeOf Go.Proofs.YtnmhggdaccbbfaaW.PrintWords Go.Proofs.YtnmhggdaccbbfaaW.PrintLast
/-! ### base -/
theorem w64 {n : Int} (h : -9223372036854775808 ≤ n) (h' : n ≤ 9223372036854775807) : wrap64 n = n := by unfold wrap64; omega
theorem w64_succ {i m : Nat} (h : i < m) (hm : m ≤ 140737488351232) : wrap64 ((i : Int) + 1) = ((i + 1 : Nat) : Int) := by
  rw [w64 (by omega) (by omega)]; omega
theorem w64_bt (s : ByteArray) (i : Int) : wrap64 (bt s i) = bt s i := by
  have := bt_range s i
  exact w64 (by omega) (by omega)
/-- A string's bytes as numbers. -/
def bs (s : ByteArray) : List Int := s.data.toList.map fun b => (b.toNat : Int)
theorem bs_length (s : ByteArray) : (bs s).length = s.size := by simp [bs]
theorem bs_get (s : ByteArray) (i : Nat) (h : i < s.size) : (bs s)[i]? = some (bt s i) := by
  have h2 : i < s.data.toList.length := by simpa using h
  simp only [bs, List.getElem?_map, List.getElem?_eq_getElem h2, Option.map_some]
  unfold bt
  rw [dif_pos (by simpa using h)]
  rfl
theorem bs_drop (s : ByteArray) (i : Nat) (h : i < s.size) : (bs s).drop i = bt s i :: (bs s).drop (i + 1) := by
  have h2 : i < (bs s).length := by rw [bs_length]; exact h
  rw [List.drop_eq_getElem_cons h2]
  congr 1
  have := bs_get s i h
  rw [List.getElem?_eq_getElem h2] at this
  exact Option.some.inj this
theorem bs_drop_nil (s : ByteArray) (i : Nat) (h : s.size ≤ i) : (bs s).drop i = [] := List.drop_eq_nil_of_le (by rw [bs_length]; exact h)
theorem bs_range {s : ByteArray} {c : Int} (h : c ∈ bs s) : 0 ≤ c ∧ c ≤ 255 := by
  simp only [bs, List.mem_map] at h
  obtain ⟨b, _, rfl⟩ := h
  have := b.toNat_lt
  omega
theorem bs_inj {s t : ByteArray} (h : bs s = bs t) : s = t := by
  have hd : s.data.toList = t.data.toList := by
    refine List.map_inj_right (f := fun b : UInt8 => (b.toNat : Int)) (fun a b hab => ?_) |>.1 h
    have hab2 : (a.toNat : Int) = b.toNat := hab
    exact UInt8.toNat_inj.1 (by omega)
  cases s; cases t
  simp only [ByteArray.mk.injEq]
  exact Array.toList_inj.1 hd
theorem bs_str {xs : List Int} (h : ∀ x ∈ xs, 0 ≤ x ∧ x ≤ 255) : bs (strOfNums xs) = xs := by
  unfold bs strOfNums
  simp only [List.map_map]
  conv => rhs; rw [← List.map_id xs]
  refine List.map_congr_left fun x hx => ?_
  have := h x hx
  simp only [Function.comp, id, UInt8.toNat_ofNat']
  omega
theorem str_bs (s : ByteArray) : strOfNums (bs s) = s := bs_inj (bs_str fun _ hx => bs_range hx)
theorem str_size (xs : List Int) : (strOfNums xs).size = xs.length := by
  show ((xs.map fun n => UInt8.ofNat n.toNat).toArray).size = xs.length
  simp
theorem bs_append (s t : ByteArray) : bs (s ++ t) = bs s ++ bs t := by
  simp [bs]
theorem bs_empty : bs (⟨#[]⟩ : ByteArray) = [] := rfl
theorem bt_str {xs : List Int} (h : ∀ x ∈ xs, 0 ≤ x ∧ x ≤ 255) (i : Nat) (hi : i < xs.length) : bt (strOfNums xs) i = rd xs i := by
  have h1 := bs_get (strOfNums xs) i (by rw [str_size]; exact hi)
  rw [bs_str h] at h1
  unfold rd
  rw [List.getD_eq_getElem?_getD, Int.toNat_natCast, h1]
  rfl
theorem bt_bs (s : ByteArray) (i : Int) : bt s i = rd (bs s) i := by
  unfold rd
  rw [List.getD_eq_getElem?_getD]
  by_cases h : i.toNat < s.size
  · have := bs_get s i.toNat h
    rw [this]
    unfold bt
    simp only [Int.toNat_natCast]
    rw [dif_pos h]
    rfl
  · rw [List.getElem?_eq_none (by rw [bs_length]; omega)]
    unfold bt
    rw [dif_neg h]
    rfl
theorem toList_eq {s t : ByteArray} : s.toList = t.toList ↔ s = t := by
  rw [ByteArray.toList_eq, ByteArray.toList_eq]
  constructor
  · intro h; cases s; cases t; simpa [Array.toList_inj] using h
  · rintro rfl; rfl
theorem tdiv_e {n : Int} (h : 0 ≤ n) (m : Int) : Int.tdiv n m = n / m := Int.tdiv_eq_ediv_of_nonneg h
theorem tmod_e {n : Int} (h : 0 ≤ n) (m : Int) : Int.tmod n m = n % m := Int.tmod_eq_emod_of_nonneg h

/-! ### ascS -/
/-! texts in order, each once -/
abbrev LB := List UInt8
theorem lb_irrefl (x : LB) : ¬ x < x := List.lt_irrefl x
theorem lb_trans {x y z : LB} (h : x < y) (k : y < z) : x < z := List.lt_trans h k
theorem lb_asymm {x y : LB} (h : x < y) : ¬ y < x := fun k => lb_irrefl x (lb_trans h k)
theorem lb_total {x y : LB} (h : ¬ x < y) (k : ¬ y < x) : x = y := List.le_antisymm k h
theorem asc_ext : ∀ {a b : List LB}, a.Pairwise (· < ·) → b.Pairwise (· < ·) → (∀ x, x ∈ a ↔ x ∈ b) → a = b
  | [], [], _, _, _ => rfl
  | [], y :: b, _, _, h => by have := (h y).2 (by simp); cases this
  | x :: a, [], _, _, h => by have := (h x).1 (by simp); cases this
  | x :: a, y :: b, ha, hb, h => by
    obtain ⟨a1, a2⟩ := List.pairwise_cons.1 ha
    obtain ⟨b1, b2⟩ := List.pairwise_cons.1 hb
    have e : x = y := by
      have h1 := (h x).1 (by simp)
      have h2 := (h y).2 (by simp)
      rw [List.mem_cons] at h1 h2
      rcases h1 with h1 | h1
      · exact h1
      · rcases h2 with h2 | h2
        · exact h2.symm
        · exact absurd (a1 y h2) (lb_asymm (b1 x h1))
    subst e
    rw [asc_ext a2 b2 (fun z => by
      have hz := h z
      rw [List.mem_cons, List.mem_cons] at hz
      constructor
      · intro hm
        rcases hz.1 (.inr hm) with e | e
        · subst e; exact absurd (a1 z hm) (lb_irrefl z)
        · exact e
      · intro hm
        rcases hz.2 (.inr hm) with e | e
        · subst e; exact absurd (b1 z hm) (lb_irrefl z)
        · exact e)]
def putL (L : List LB) (s : LB) : List LB := L.filter (fun x => decide (x < s)) ++ (s :: L.filter (fun x => decide (s < x)))
theorem putL_mem (L : List LB) (s x : LB) : x ∈ putL L s ↔ x ∈ L ∨ x = s := by
  unfold putL
  rw [List.mem_append, List.mem_cons, List.mem_filter, List.mem_filter, decide_eq_true_iff, decide_eq_true_iff]
  constructor
  · rintro (h | h | h)
    · exact .inl h.1
    · exact .inr h
    · exact .inl h.1
  · rintro (h | h)
    · by_cases c : x < s
      · exact .inl ⟨h, c⟩
      · by_cases d : s < x
        · exact .inr (.inr ⟨h, d⟩)
        · exact .inr (.inl (lb_total c d))
    · exact .inr (.inl h)
theorem putL_asc {L : List LB} (h : L.Pairwise (· < ·)) (s : LB) : (putL L s).Pairwise (· < ·) := by
  unfold putL
  refine List.pairwise_append.2 ⟨h.filter _, List.pairwise_cons.2 ⟨fun x hx => ?_, h.filter _⟩, fun x hx y hy => ?_⟩
  · exact of_decide_eq_true (List.mem_filter.1 hx).2
  · have h1 : x < s := of_decide_eq_true (List.mem_filter.1 hx).2
    rw [List.mem_cons] at hy
    rcases hy with rfl | hy
    · exact h1
    · exact lb_trans h1 (of_decide_eq_true (List.mem_filter.1 hy).2)
theorem foldPut (l : List LB) : ∀ L : List LB, L.Pairwise (· < ·) → (l.foldl putL L).Pairwise (· < ·) ∧ ∀ x, x ∈ l.foldl putL L ↔ x ∈ L ∨ x ∈ l := by
  induction l with
  | nil => intro L h; exact ⟨h, fun x => by simp⟩
  | cons s l ih =>
    intro L h
    obtain ⟨h1, h2⟩ := ih (putL L s) (putL_asc h s)
    refine ⟨h1, fun x => ?_⟩
    rw [List.foldl_cons, h2 x, putL_mem, List.mem_cons, or_assoc]
theorem sorted_ms (l : List LB) : (l.mergeSort fun x y => decide (x ≤ y)).Pairwise (fun x y => ¬ y < x) := by
  have h := List.pairwise_mergeSort (le := fun x y : LB => decide (x ≤ y)) (fun a b c h1 h2 => by
    simp only [decide_eq_true_iff] at h1 h2 ⊢
    exact List.le_trans h1 h2) (fun a b => by
    simp only [Bool.or_eq_true, decide_eq_true_iff]
    exact List.le_total a b) l
  exact h.imp (fun h => of_decide_eq_true h)
theorem compact_upto (zs : List LB) (hs : zs.Pairwise (fun x y => ¬ y < x)) : ∀ m, m ≤ zs.length → (Go.Lib.compactUpTo zs.toArray m).Pairwise (· < ·) ∧ ∀ x, x ∈ Go.Lib.compactUpTo zs.toArray m ↔ x ∈ zs.take m := by
  intro m
  induction m with
  | zero => intro _; exact ⟨List.Pairwise.nil, fun x => by simp [Go.Lib.compactUpTo]⟩
  | succ m ih =>
    intro hm
    obtain ⟨i1, i2⟩ := ih (by omega)
    have hget : ∀ j (hj : j < zs.length), zs.toArray[j]! = zs[j] := fun j hj => by simp [hj]
    have htk : zs.take (m + 1) = zs.take m ++ [zs[m]] := by rw [List.take_add_one, List.getElem?_eq_getElem (by omega)]; rfl
    have hpw := List.pairwise_iff_getElem.1 hs
    rw [Go.Lib.compactUpTo_succ]
    by_cases hk : Go.Lib.keeps zs.toArray m = true
    · rw [if_pos hk, hget m (by omega), htk]
      refine ⟨List.pairwise_append.2 ⟨i1, List.pairwise_singleton _ _, fun x hx y hy => ?_⟩, fun x => by rw [List.mem_append, List.mem_append, i2]⟩
      rw [List.mem_singleton] at hy
      subst hy
      have hx' := (i2 x).1 hx
      obtain ⟨j, hj, rfl⟩ := List.getElem_of_mem hx'
      rw [List.length_take] at hj
      rw [List.getElem_take]
      have hle : ¬ zs[m] < zs[j] := hpw j m (by omega) (by omega) (by omega)
      by_cases c : zs[j] < zs[m]
      · exact c
      · exfalso
        have he : zs[j] = zs[m] := lb_total c hle
        have h1 : ¬ zs[m - 1] < zs[j] := by
          by_cases e : j = m - 1
          · subst e; exact lb_irrefl _
          · exact hpw j (m - 1) (by omega) (by omega) (by omega)
        have h2 : ¬ zs[m] < zs[m - 1] := hpw (m - 1) m (by omega) (by omega) (by omega)
        rw [← he] at h2
        have h3 : zs[j] = zs[m - 1] := lb_total h2 h1
        rw [Go.Lib.keeps_neg (by omega) (by rw [hget m (by omega), hget (m - 1) (by omega), ← he, h3])] at hk
        cases hk
    · rw [if_neg hk, List.append_nil, htk]
      refine ⟨i1, fun x => ?_⟩
      rw [i2, List.mem_append, List.mem_singleton]
      constructor
      · exact .inl
      · rintro (h | rfl)
        · exact h
        · have hm0 : m ≠ 0 := by
            rintro rfl
            exact hk (Go.Lib.keeps_lt_one _ 0 (by omega))
          have he : zs[m] = zs[m - 1] := by
            by_cases c : zs[m] = zs[m - 1]
            · exact c
            · exact absurd (Go.Lib.keeps_pos (by rw [hget m (by omega), hget (m - 1) (by omega)]; exact c)) hk
          rw [he, List.mem_take_iff_getElem]
          exact ⟨m - 1, by omega, rfl⟩
/-- Sorted, and each once: what is put, one by one, in its place. -/
theorem sort_put (l : List LB) : Go.Lib.compact (l.mergeSort fun x y => decide (x ≤ y)) = l.foldl putL [] := by
  have h1 := compact_upto _ (sorted_ms l) _ (Nat.le_refl _)
  have h2 := foldPut l [] List.Pairwise.nil
  refine asc_ext h1.1 h2.1 (fun x => ?_)
  rw [h2.2 x]
  have := h1.2 x
  rw [List.take_length] at this
  exact this.trans (by rw [List.mem_mergeSort]; simp)

/-! ### lists -/
theorem drop_get {α : Type} (xs : List α) (i : Nat) (h : i < xs.length) : xs.drop i = xs[i] :: xs.drop (i + 1) := List.drop_eq_getElem_cons h
theorem w64_len {i n : Nat} (h : i < n) (hn : n ≤ 9223372036854775807) : wrap64 ((i : Int) + 1) = ((i + 1 : Nat) : Int) := by
  rw [w64 (by omega) (by omega)]; omega
theorem take_set {α : Type} (acc : List α) (i : Nat) (v : α) (h : i < acc.length) : (acc.set i v).take (i + 1) = acc.take i ++ [v] := by
  rw [List.take_add_one, List.getElem?_set_self h, List.take_set_of_le (Nat.le_refl i)]; rfl

/-! ### gen -/
/-! ### loops told once: over a list, place by place -/
theorem gen_to {α β : Type} (L : Nat → List α → List β → Int → Option (List β)) (c : α → β) (xs : List α) (K : Nat)
    (hstep : ∀ (k i : Nat) (acc : List β) (h : i < xs.length), acc.length = xs.length → K ≤ k → L (k + 1) xs acc (i : Int) = L k xs (acc.set i (c xs[i])) ((i + 1 : Nat) : Int))
    (hend : ∀ (k : Nat) (acc : List β), L (k + 1) xs acc (xs.length : Int) = some acc) (k : Nat) (acc : List β) (hk : K + xs.length < k) (ha : acc.length = xs.length) : L k xs acc 0 = some (xs.map c) := by
  have go : ∀ (d k i : Nat) (acc : List β), xs.length - i ≤ d → K + d < k → i ≤ xs.length → acc.length = xs.length → acc.take i = (xs.take i).map c → L k xs acc (i : Int) = some (xs.map c) := by
    intro d
    induction d with
    | zero =>
      intro k i acc hd hk hi ha ht
      obtain ⟨k, rfl⟩ : ∃ m, k = m + 1 := ⟨k - 1, by omega⟩
      obtain rfl : i = xs.length := by omega
      rw [hend]
      rw [List.take_length, ← ha, List.take_length] at ht
      rw [ht]
    | succ d ih =>
      intro k i acc hd hk hi ha ht
      obtain ⟨k, rfl⟩ : ∃ m, k = m + 1 := ⟨k - 1, by omega⟩
      by_cases hi2 : i < xs.length
      · rw [hstep k i acc hi2 ha (by omega)]
        refine ih k (i + 1) _ (by omega) (by omega) (by omega) (by rw [List.length_set]; exact ha) ?_
        rw [take_set acc i _ (by omega), ht, List.take_add_one, List.getElem?_eq_getElem hi2, List.map_append]
        rfl
      · obtain rfl : i = xs.length := by omega
        rw [hend]
        rw [List.take_length, ← ha, List.take_length] at ht
        rw [ht]
  exact go xs.length k 0 acc (by omega) hk (by omega) ha (by simp)
theorem gen_eq {β : Type} (L : Nat → List β → List β → Int → Option Bool) (xs : List β) (K : Nat)
    (hstep : ∀ (k i : Nat), i < xs.length → K ≤ k → L (k + 1) xs xs (i : Int) = L k xs xs ((i + 1 : Nat) : Int))
    (hend : ∀ k : Nat, L (k + 1) xs xs (xs.length : Int) = some true) (k : Nat) (hk : K + xs.length < k) : L k xs xs 0 = some true := by
  have go : ∀ (d k i : Nat), xs.length - i ≤ d → K + d < k → i ≤ xs.length → L k xs xs (i : Int) = some true := by
    intro d
    induction d with
    | zero =>
      intro k i hd hk hi
      obtain ⟨k, rfl⟩ : ∃ m, k = m + 1 := ⟨k - 1, by omega⟩
      obtain rfl : i = xs.length := by omega
      exact hend k
    | succ d ih =>
      intro k i hd hk hi
      obtain ⟨k, rfl⟩ : ∃ m, k = m + 1 := ⟨k - 1, by omega⟩
      by_cases hi2 : i < xs.length
      · rw [hstep k i hi2 (by omega)]
        exact ih k (i + 1) (by omega) (by omega) (by omega)
      · obtain rfl : i = xs.length := by omega
        exact hend k
  exact go xs.length k 0 (by omega) hk (by omega)
theorem gen_sz {α : Type} (L : Nat → List α → Int → Int → Option Int) (xs : List α) (P : α → Prop) (K : Nat)
    (hstep : ∀ (k i : Nat) (left : Int) (h : i < xs.length), 0 ≤ left → left ≤ 1048576 → K ≤ k → L (k + 1) xs left (i : Int) = some (-1) ∨ ∃ t, 0 ≤ t ∧ t ≤ left ∧ P xs[i] ∧ L (k + 1) xs left (i : Int) = L k xs t ((i + 1 : Nat) : Int))
    (hend : ∀ (k : Nat) (left : Int), L (k + 1) xs left (xs.length : Int) = some left) (k : Nat) (left : Int) (hk : K + xs.length < k) (h0 : 0 ≤ left) (h1 : left ≤ 1048576) :
    L k xs left 0 = some (-1) ∨ ∃ r, L k xs left 0 = some r ∧ 0 ≤ r ∧ r ≤ left ∧ ∀ y ∈ xs, P y := by
  have go : ∀ (d k i : Nat) (left : Int), xs.length - i ≤ d → K + d < k → i ≤ xs.length → 0 ≤ left → left ≤ 1048576 → L k xs left (i : Int) = some (-1) ∨ ∃ r, L k xs left (i : Int) = some r ∧ 0 ≤ r ∧ r ≤ left ∧ ∀ y ∈ xs.drop i, P y := by
    intro d
    induction d with
    | zero =>
      intro k i left hd hk hi h0 h1
      obtain ⟨k, rfl⟩ : ∃ m, k = m + 1 := ⟨k - 1, by omega⟩
      obtain rfl : i = xs.length := by omega
      exact .inr ⟨left, hend k left, h0, Int.le_refl _, by simp⟩
    | succ d ih =>
      intro k i left hd hk hi h0 h1
      obtain ⟨k, rfl⟩ : ∃ m, k = m + 1 := ⟨k - 1, by omega⟩
      by_cases hi2 : i < xs.length
      · rcases hstep k i left hi2 h0 h1 (by omega) with h | ⟨t, t0, t1, hp, h⟩
        · exact .inl h
        · rw [h]
          rcases ih k (i + 1) t (by omega) (by omega) (by omega) t0 (by omega) with h | ⟨r, hr, r0, r1, ha⟩
          · exact .inl h
          · refine .inr ⟨r, hr, r0, by omega, fun y hy => ?_⟩
            rw [drop_get xs i hi2, List.mem_cons] at hy
            rcases hy with rfl | hy
            · exact hp
            · exact ha y hy
      · obtain rfl : i = xs.length := by omega
        exact .inr ⟨left, hend k left, h0, Int.le_refl _, by simp⟩
  have := go xs.length k 0 left (by omega) hk (by omega) h0 h1
  simpa using this

/-! ### lawsInt -/
theorem rdInt (xs : List Int) (i : Nat) (h : i < xs.length) : rd xs (i : Int) = xs[i] := by simp [rd, List.getD, h]
theorem szIntS_is (xs : List Int) (hl : xs.length ≤ 9223372036854775807) (left : Int) (h0 : 0 ≤ left) (h1 : left ≤ 1048576) : laws_szIntS.f xs left = some (-1) ∨ ∃ t, laws_szIntS.f xs left = some t ∧ 0 ≤ t ∧ t ≤ left ∧ xs.length ≤ 1048576 := by
  unfold laws_szIntS.f
  rw [w64 (n := left - (xs.length : Int)) (by omega) (by omega)]
  by_cases h : left - (xs.length : Int) < 0
  · rw [if_pos h]; exact .inl rfl
  · rw [if_neg h]; exact .inr ⟨_, rfl, by omega, by omega, by omega⟩
theorem toIntS_is (xs : List Int) (hl : xs.length ≤ 1048576) (k : Nat) (hk : xs.length < k) : laws_toIntS.f k xs = some xs := by
  unfold laws_toIntS.f
  rw [if_pos (by omega), if_pos (by omega)]
  have h := gen_to (fun k x a i => laws_toIntS.l0 k x a i) id xs 0 (fun k i acc h ha _ => by
      show laws_toIntS.l0 (k + 1) xs acc (i : Int) = _
      rw [laws_toIntS.l0, if_pos (by omega), if_pos (by omega), if_pos (by omega), rdInt xs i h, w64_len h (by omega)]; rfl)
    (fun k acc => by show laws_toIntS.l0 (k + 1) xs acc _ = _; rw [laws_toIntS.l0, if_neg (by omega)]) k (List.replicate ((xs.length : Int)).toNat 0) (by omega) (by simp)
  rw [List.map_id] at h
  exact h
theorem eqIntS_self (xs : List Int) (hl : xs.length ≤ 9223372036854775807) (k : Nat) (hk : xs.length < k) : laws_eqIntS.f k xs xs = some true := by
  unfold laws_eqIntS.f
  rw [if_pos rfl]
  exact gen_eq (fun k x a i => laws_eqIntS.l0 k x a i) xs 0 (fun k i h _ => by
      show laws_eqIntS.l0 (k + 1) xs xs (i : Int) = _
      rw [laws_eqIntS.l0, if_pos (by omega), if_pos (by omega), if_pos (by omega), if_pos rfl, w64_len h hl])
    (fun k => by show laws_eqIntS.l0 (k + 1) xs xs _ = _; rw [laws_eqIntS.l0, if_neg (by omega)]) k (by omega)

/-! ### ev -/
theorem Ev.shift {α : Type} {g f : Nat → Option α} {r : α} (c : Nat) (h : ∀ k, g (k + c) = f k) (k : Ev f r) : Ev g r := by
  obtain ⟨K, k⟩ := k
  refine ⟨K + c, fun n hn => ?_⟩
  obtain ⟨m, rfl⟩ : ∃ m, n = m + c := ⟨n - c, by omega⟩
  rw [h]
  exact k m (by omega)
theorem Ev.from {α : Type} {g : Nat → Option α} {r : α} (B : Nat) (h : ∀ k, B < k → g k = some r) : Ev g r := ⟨B + 1, fun k hk => h k (by omega)⟩
theorem Ev.always {α : Type} {g : Nat → Option α} {r : α} (h : ∀ k, g k = some r) : Ev g r := ⟨0, fun k _ => h k⟩

/-! ### lawsExpr -/
/-! what the laws' own small functions tell of expressions -/
theorem rdEL (xs : List S126) (i : Nat) (h : i < xs.length) : rd_T126 xs (i : Int) = xs[i] := by simp [rd_T126, List.getD, h]
theorem rdEI (xs : List S34) (i : Nat) (h : i < xs.length) : rd_T34 xs (i : Int) = xs[i] := by simp [rd_T34, List.getD, h]
def smallE (y : S126) : Prop := y.f2.size ≤ 1048576 ∧ y.f3.length ≤ 1048576
theorem szExNode_is (y : S126) (h2 : y.f2.size ≤ 9223372036854775807) (h3 : y.f3.length ≤ 9223372036854775807) (left : Int) (h0 : 0 ≤ left) (h1 : left ≤ 1048576) :
    laws_szExNode.f y.f0 y.f1 y.f2 y.f3 left = some (-1) ∨ ∃ t, laws_szExNode.f y.f0 y.f1 y.f2 y.f3 left = some t ∧ 0 ≤ t ∧ t ≤ left ∧ smallE y := by
  unfold laws_szExNode.f
  rw [w64 (n := left - (y.f2.size : Int)) (by omega) (by omega)]
  by_cases h : left - (y.f2.size : Int) < 0
  · rw [if_pos h]; exact .inl rfl
  · rw [if_neg h]
    rcases szIntS_is y.f3 h3 (left - (y.f2.size : Int)) (by omega) (by omega) with e | ⟨t, e, t0, t1, l3⟩
    · rw [e, Option.bind_some, if_pos (by omega)]; exact .inl rfl
    · rw [e, Option.bind_some, if_neg (by omega)]; exact .inr ⟨t, rfl, t0, by omega, by unfold smallE; omega⟩
def szExprOk (xs : List S126) : Prop := xs.length ≤ 1048576 ∧ ∀ y ∈ xs, smallE y
theorem szExpr_is (xs : List S126) (hx : ∀ y ∈ xs, ok126 y) (hl : xs.length ≤ 9223372036854775807) (left : Int) (h0 : 0 ≤ left) (h1 : left ≤ 1048576) (k : Nat) (hk : xs.length < k) :
    laws_szExpr.f k xs left = some (-1) ∨ ∃ r, laws_szExpr.f k xs left = some r ∧ 0 ≤ r ∧ r ≤ left ∧ szExprOk xs := by
  unfold laws_szExpr.f laws_szExNodeS.f
  rw [w64 (n := left - (xs.length : Int)) (by omega) (by omega)]
  by_cases h2 : left - (xs.length : Int) < 0
  · rw [if_pos h2, Option.bind_some, if_pos (by omega)]; exact .inl rfl
  · rw [if_neg h2]
    have g := gen_sz (fun k x a i => laws_szExNodeS.l0 k x a i) xs smallE 0 (fun k i left h h0 h1 _ => by
        show laws_szExNodeS.l0 (k + 1) xs left (i : Int) = _ ∨ ∃ t, _ ∧ _ ∧ _ ∧ laws_szExNodeS.l0 (k + 1) xs left (i : Int) = laws_szExNodeS.l0 k xs t ((i + 1 : Nat) : Int)
        have ho := hx xs[i] (List.getElem_mem h)
        have m2 : xs[i].f2.size ≤ 9223372036854775807 := by have := ho.2.2.1; unfold maxLen at this; exact this
        have m3 : xs[i].f3.length ≤ 9223372036854775807 := by have := ho.2.2.2.2; unfold maxLen at this; exact this
        rw [laws_szExNodeS.l0, if_pos (by omega), if_pos (by omega), rdEL xs i h, w64_len h hl]
        rcases szExNode_is xs[i] m2 m3 left h0 h1 with e | ⟨t, e, t0, t1, p⟩
        · rw [e, Option.bind_some, if_pos (by omega)]; exact .inl rfl
        · rw [e, Option.bind_some, if_neg (by omega)]; exact .inr ⟨t, t0, t1, p, rfl⟩)
      (fun k left => by show laws_szExNodeS.l0 (k + 1) xs left _ = _; rw [laws_szExNodeS.l0, if_neg (by omega)]) k (left - (xs.length : Int)) (by omega) (by omega) (by omega)
    rcases g with g | ⟨r, g, r0, r1, ha⟩
    · rw [show laws_szExNodeS.l0 k xs (left - (xs.length : Int)) 0 = some (-1) from g, Option.bind_some, if_pos (by omega)]; exact .inl rfl
    · rw [show laws_szExNodeS.l0 k xs (left - (xs.length : Int)) 0 = some r from g, Option.bind_some, if_neg (by omega)]; exact .inr ⟨r, rfl, r0, by omega, by omega, ha⟩
theorem szExpr_ev (xs : List S126) (hx : ∀ y ∈ xs, ok126 y) (hl : xs.length ≤ 9223372036854775807) (left : Int) (h0 : 0 ≤ left) (h1 : left ≤ 1048576) :
    ∃ r, Ev (fun k => laws_szExpr.f k xs left) r ∧ (0 ≤ r → r ≤ left ∧ szExprOk xs) := by
  rcases szExpr_is xs hx hl left h0 h1 (xs.length + 1) (by omega) with e | ⟨r, e, r0, r1, hz⟩
  · exact ⟨-1, Ev.of (laws_szExpr.mono xs left) e, fun h => absurd h (by omega)⟩
  · exact ⟨r, Ev.of (laws_szExpr.mono xs left) e, fun _ => ⟨r1, hz⟩⟩
def toEN (x : S126) : S34 := ⟨x.f0, x.f1, x.f2, x.f3⟩
theorem toExpr_is (xs : List S126) (hz : szExprOk xs) (k : Nat) (hk : 1048577 + xs.length < k) : laws_toExpr.f k xs = some (xs.map toEN) := by
  obtain ⟨hl, ha⟩ := hz
  unfold laws_toExpr.f laws_toExNodeS.f
  rw [if_pos (by omega), if_pos (by omega)]
  have h := gen_to (fun k x a i => laws_toExNodeS.l0 k x a i) toEN xs 1048577 (fun k i acc h hacc hk => by
      show laws_toExNodeS.l0 (k + 1) xs acc (i : Int) = _
      have p := (ha xs[i] (List.getElem_mem h)).2
      rw [laws_toExNodeS.l0, if_pos (by omega), if_pos (by omega), rdEL xs i h, w64_len h (by omega)]
      unfold laws_toExNode.f
      rw [toIntS_is _ p k (by omega), Option.bind_some, Option.bind_some, if_pos (by omega)]
      rfl)
    (fun k acc => by show laws_toExNodeS.l0 (k + 1) xs acc _ = _; rw [laws_toExNodeS.l0, if_neg (by omega)]) k (List.replicate ((xs.length : Int)).toNat z34) hk (by simp)
  rw [show laws_toExNodeS.l0 k xs (List.replicate ((xs.length : Int)).toNat z34) 0 = _ from h]; rfl
def smallEI (xs : List S34) : Prop := xs.length ≤ 1048576 ∧ ∀ y ∈ xs, y.f2.size ≤ 1048576 ∧ y.f3.length ≤ 1048576
theorem smallEI_of {xs : List S126} (h : szExprOk xs) : smallEI (xs.map toEN) := by
  refine ⟨by rw [List.length_map]; exact h.1, fun y hy => ?_⟩
  obtain ⟨x, hx, rfl⟩ := List.mem_map.1 hy
  exact h.2 x hx
theorem eqExpr_self (xs : List S34) (hz : smallEI xs) (k : Nat) (hk : 1048577 + xs.length < k) : laws_eqExpr.f k xs xs = some true := by
  unfold laws_eqExpr.f laws_eqExNodeS.f
  rw [if_pos rfl]
  have h := gen_eq (fun k x a i => laws_eqExNodeS.l0 k x a i) xs 1048577 (fun k i h hk => by
      show laws_eqExNodeS.l0 (k + 1) xs xs (i : Int) = _
      have p := (hz.2 xs[i] (List.getElem_mem h)).2
      have hl := hz.1
      rw [laws_eqExNodeS.l0, if_pos (by omega), if_pos (by omega), if_pos (by omega), rdEI xs i h, w64_len h (by omega)]
      unfold laws_eqExNode.f
      rw [if_pos (show xs[i].f0 = xs[i].f0 from rfl), if_pos (show xs[i].f1 = xs[i].f1 from rfl), if_pos (show xs[i].f2.toList = xs[i].f2.toList from rfl), eqIntS_self _ (by omega) k (by omega), Option.bind_some, if_pos (show true = true from rfl), Option.bind_some, if_pos (show true = true from rfl)])
    (fun k => by show laws_eqExNodeS.l0 (k + 1) xs xs _ = _; rw [laws_eqExNodeS.l0, if_neg (by omega)]) k (by omega)
  rw [show laws_eqExNodeS.l0 k xs xs 0 = _ from h]
  rfl

/-! ### varNameB -/
/-- 1 to 4 letters a-z. -/
def small (c : Int) : Bool := decide (97 ≤ c ∧ c ≤ 122)
def varNameB (s : ByteArray) : Bool := (bs s).all small && decide (1 ≤ (s.size : Int) ∧ (s.size : Int) ≤ 4)

/-! ### within -/
theorem within_is (a b c : Int) : impl_within.f a b c = some (decide (b ≤ a ∧ a ≤ c)) := by
  unfold impl_within.f
  by_cases h : a ≥ b
  · rw [if_pos h]; simp [show b ≤ a from h]
  · rw [if_neg h]; simp [show ¬ b ≤ a from h]

/-! ### kidsAhead -/
def kidIn (i : Nat) (c : Int) : Bool := decide (0 ≤ c ∧ c ≤ (i : Int) - 1)
def kidsIn (i : Nat) (ks : List Int) : Bool := ks.all (kidIn i)
theorem kidsIn_cons (i : Nat) (c : Int) (ks : List Int) : kidsIn i (c :: ks) = (kidIn i c && kidsIn i ks) := by simp [kidsIn]
theorem implKidsAhead_is (ks : List Int) (hl : ks.length ≤ 1048576) (i : Nat) (hi : i ≤ 9223372036854775807) (k : Nat) (hk : ks.length < k) : impl_kidsAhead.f k ks (i : Int) = some (kidsIn i ks) := by
  have go : ∀ (d k j : Nat), ks.length - j ≤ d → d < k → impl_kidsAhead.l0 k (i : Int) ks (ks.length : Int) (j : Int) = some (kidsIn i (ks.drop j)) := by
    intro d
    induction d with
    | zero =>
      intro k j hd hk
      obtain ⟨k, rfl⟩ : ∃ m, k = m + 1 := ⟨k - 1, by omega⟩
      rw [impl_kidsAhead.l0, if_neg (by omega), List.drop_eq_nil_of_le (by omega)]; rfl
    | succ d ih =>
      intro k j hd hk
      obtain ⟨k, rfl⟩ : ∃ m, k = m + 1 := ⟨k - 1, by omega⟩
      by_cases hj : j < ks.length
      · rw [impl_kidsAhead.l0, if_pos (by omega), if_pos (by omega), if_pos (by omega), rdInt ks j hj, within_is, Option.bind_some, w64 (n := (i : Int) - 1) (by omega) (by omega), w64_len hj (by omega), ih k (j + 1) (by omega) (by omega), drop_get ks j hj, kidsIn_cons]
        rw [show decide (0 ≤ ks[j] ∧ ks[j] ≤ (i : Int) - 1) = kidIn i ks[j] from rfl]
        by_cases hc : kidIn i ks[j] = true
        · rw [if_pos hc, hc, Bool.true_and]
        · rw [if_neg hc, show kidIn i ks[j] = false from by simpa using hc, Bool.false_and]
      · rw [impl_kidsAhead.l0, if_neg (by omega), List.drop_eq_nil_of_le (by omega)]; rfl
  unfold impl_kidsAhead.f
  exact go ks.length k 0 (by omega) hk

/-! ### exprOk -/
theorem rdE (xs : List S34) (i : Nat) (h : i < xs.length) : rd_T34 xs (i : Int) = xs[i] := by simp [rd_T34, List.getD, h]
def kidsOf (op : Int) : Int := if op = 1 ∨ op = 2 ∨ op = 3 then 0 else if op = 11 then 1 else 2
def numOk (op num : Int) : Bool := if op = 1 then decide (0 ≤ num ∧ num ≤ 99) else decide (num = 0)
def nameOk (op : Int) (s : ByteArray) : Bool := if op = 2 then varNameB s else decide (s.toList = ([] : List UInt8))
/-- A node is right at its place. -/
def nodeB (i : Nat) (y : S34) : Bool := decide (1 ≤ y.f0 ∧ y.f0 ≤ 11) && decide ((y.f3.length : Int) = kidsOf y.f0) && numOk y.f0 y.f1 && nameOk y.f0 y.f2 && kidsIn i y.f3
def nodesB : Nat → List S34 → Bool
  | _, [] => true
  | i, y :: l => nodeB i y && nodesB (i + 1) l
/-- An expression is right. -/
def exprOkB (xs : List S34) : Bool := nodesB 0 xs && decide (1 ≤ (xs.length : Int) ∧ (xs.length : Int) ≤ 20)
def smallX (xs : List S34) : Prop := xs.length ≤ 1048576 ∧ ∀ y ∈ xs, y.f2.size ≤ 1048576 ∧ y.f3.length ≤ 1048576
theorem bne_nil (s : ByteArray) : (s.toList != ([] : List UInt8)) = !decide (s.toList = ([] : List UInt8)) := by
  cases h : s.toList <;> simp

/-! ### l01In -/
theorem l01In_is (a b c : Int) : spec_l01In.f a b c = some (decide (b ≤ a ∧ a ≤ c)) := by
  unfold spec_l01In.f
  by_cases h : a ≥ b
  · rw [if_pos h]; simp [show b ≤ a from h]
  · rw [if_neg h]; simp [show ¬ b ≤ a from h]

/-! ### specVarName -/
theorem specVarName_l0 (s : ByteArray) (hs : s.size ≤ 140737488351232) (d : Nat) : ∀ (k i : Nat), s.size - i ≤ d → d < k →
    spec_VarName.l0 k s (i : Int) = some (((bs s).drop i).all small && decide (1 ≤ (s.size : Int) ∧ (s.size : Int) ≤ 4)) := by
  induction d with
  | zero =>
    intro k i hd hk
    obtain ⟨k, rfl⟩ : ∃ m, k = m + 1 := ⟨k - 1, by omega⟩
    simp only [spec_VarName.l0]
    rw [if_neg (by omega), l01In_is, bs_drop_nil s i (by omega)]; simp
  | succ d ih =>
    intro k i hd hk
    obtain ⟨k, rfl⟩ : ∃ m, k = m + 1 := ⟨k - 1, by omega⟩
    by_cases hi : i < s.size
    · have e := ih k (i + 1) (by omega) (by omega)
      simp only [spec_VarName.l0]
      rw [if_pos (by omega), if_pos (by omega), w64_succ hi hs, e, bs_drop s i hi]
      simp only [List.all_cons]
      by_cases h1 : bt s i < 97
      · rw [if_pos h1, show small (bt s i) = false from by simp [small]; omega]; simp
      · by_cases h2 : bt s i > 122
        · rw [if_neg h1, if_pos h2, show small (bt s i) = false from by simp [small]; omega]; simp
        · rw [if_neg h1, if_neg h2, show small (bt s i) = true from by simp [small]; omega]; simp
    · simp only [spec_VarName.l0]
      rw [if_neg (by omega), l01In_is, bs_drop_nil s i (by omega)]; simp
theorem specVarName_is (s : ByteArray) (hs : s.size ≤ 140737488351232) (k : Nat) (hk : s.size < k) : spec_VarName.f k s = some (varNameB s) := by
  unfold spec_VarName.f
  exact specVarName_l0 s hs s.size k 0 (by omega) hk

/-! ### specExprOk -/
section
variable (xs : List S34) (hz : smallX xs) (i : Nat) (hi : i < xs.length) (op num : Int) (s : ByteArray) (hs : s.size ≤ 1048576) (ks : List Int) (hk : ks.length ≤ 1048576) (r : Bool)
theorem specExpr_l1 (hi : i < 9223372036854775807) (hk : ks.length ≤ 1048576) (hn : Ev (fun k => spec_ExprOk.l0 k (wrap64 ((i : Int) + 1)) xs) r) (d : Nat) : ∀ j : Nat, ks.length - j = d → j ≤ ks.length →
    Ev (fun k => spec_ExprOk.l1 k (i : Int) (j : Int) xs op num s ks) (if kidsIn i (ks.drop j) then r else false) := by
  induction d with
  | zero =>
    intro j hd hj
    rw [List.drop_eq_nil_of_le (show ks.length ≤ j by omega), if_pos (by rfl)]
    refine Ev.shift 1 (fun k => ?_) hn
    rw [spec_ExprOk.l1, if_neg (by omega)]
  | succ d ih =>
    intro j hd hj
    have hj2 : j < ks.length := by omega
    have e := ih (j + 1) (by omega) (by omega)
    rw [drop_get ks j hj2, kidsIn_cons]
    by_cases hc : kidIn i ks[j] = true
    · rw [hc, Bool.true_and]
      refine Ev.shift 1 (fun k => ?_) e
      have hc2 : decide (0 ≤ ks[j] ∧ ks[j] ≤ (i : Int) - 1) = true := hc
      rw [spec_ExprOk.l1, if_pos (by omega), if_pos (by omega), rdInt ks j hj2, l01In_is, Option.bind_some, w64 (n := (i : Int) - 1) (by omega) (by omega), hc2, if_pos (show true = true from rfl), w64_len hj2 (by omega)]
    · have hc' : kidIn i ks[j] = false := by simpa using hc
      rw [hc', Bool.false_and, if_neg (by simp)]
      refine Ev.shift 1 (f := fun _ => some false) (fun k => ?_) (Ev.now _)
      have hc2 : decide (0 ≤ ks[j] ∧ ks[j] ≤ (i : Int) - 1) = false := hc'
      rw [spec_ExprOk.l1, if_pos (by omega), if_pos (by omega), rdInt ks j hj2, l01In_is, Option.bind_some, w64 (n := (i : Int) - 1) (by omega) (by omega), hc2, if_neg (by simp)]
theorem specExpr_j2 (hi : i < 9223372036854775807) (hk : ks.length ≤ 1048576) (hn : Ev (fun k => spec_ExprOk.l0 k (wrap64 ((i : Int) + 1)) xs) r) (b : Bool) :
    Ev (fun k => spec_ExprOk.j2 k (i : Int) b xs op num s ks) (if !b && kidsIn i ks then r else false) := by
  cases b with
  | true =>
    refine Ev.shift 1 (f := fun _ => some false) (fun k => ?_) (Ev.now _)
    rw [spec_ExprOk.j2, if_pos (show true = true from rfl)]
  | false =>
    have e := specExpr_l1 xs i op num s ks r hi hk hn ks.length 0 (by omega) (by omega)
    rw [List.drop_zero] at e
    refine Ev.shift 1 (fun k => ?_) e
    rw [spec_ExprOk.j2, if_neg (by simp)]; rfl
theorem specExpr_j1 (hi : i < 9223372036854775807) (hk : ks.length ≤ 1048576) (hs : s.size ≤ 1048576) (hn : Ev (fun k => spec_ExprOk.l0 k (wrap64 ((i : Int) + 1)) xs) r) (b : Bool) :
    Ev (fun k => spec_ExprOk.j1 k (i : Int) b xs op num s ks) (if !b && numOk op num && nameOk op s && kidsIn i ks then r else false) := by
  have J := specExpr_j2 xs i op num s ks r hi hk hn
  have hv : Ev (fun k => spec_VarName.f k s) (varNameB s) := Ev.from s.size (fun k hk => specVarName_is s (by omega) k hk)
  cases b with
  | true =>
    refine Ev.shift 1 (f := fun _ => some false) (fun k => ?_) (Ev.now _)
    rw [spec_ExprOk.j1, if_pos (show true = true from rfl)]
  | false =>
    have name : ∀ c : Bool, c = true → Ev (fun k => if op = 2 then ((spec_VarName.f k s).bind fun t => (if t = true then spec_ExprOk.j2 k (i : Int) false xs op num s ks else spec_ExprOk.j2 k (i : Int) true xs op num s ks)) else spec_ExprOk.j2 k (i : Int) (s.toList != ([] : List UInt8)) xs op num s ks) (if nameOk op s && kidsIn i ks then r else false) := by
      intro _ _
      by_cases h2 : op = 2
      · refine Ev.congr (fun k => if_pos h2) (Ev.bind hv ?_)
        have hnm : nameOk op s = varNameB s := by unfold nameOk; rw [if_pos h2]
        rw [hnm]
        by_cases hb : varNameB s = true
        · rw [hb]; exact Ev.congr (fun k => if_pos rfl) (J false)
        · rw [show varNameB s = false from by simpa using hb]; exact Ev.congr (fun k => if_neg (by simp)) (J true)
      · refine Ev.congr (fun k => if_neg h2) ?_
        have hnm : nameOk op s = !(s.toList != ([] : List UInt8)) := by unfold nameOk; rw [if_neg h2, bne_nil, Bool.not_not]
        rw [hnm]
        exact J _
    by_cases h1 : op = 1
    · have hnum : numOk op num = decide (0 ≤ num ∧ num ≤ 99) := by unfold numOk; rw [if_pos h1]
      refine Ev.shift 1 (f := fun k => (spec_l01In.f num 0 99).bind fun t => (if t = true then (if op = 2 then ((spec_VarName.f k s).bind fun t => (if t = true then spec_ExprOk.j2 k (i : Int) false xs op num s ks else spec_ExprOk.j2 k (i : Int) true xs op num s ks)) else spec_ExprOk.j2 k (i : Int) (s.toList != ([] : List UInt8)) xs op num s ks) else spec_ExprOk.j2 k (i : Int) true xs op num s ks)) (fun k => ?_) ?_
      · rw [spec_ExprOk.j1, if_neg (by simp), if_pos h1]
      · rw [l01In_is, hnum]
        simp only [Option.bind_some, Bool.not_false, Bool.true_and]
        by_cases hb : decide (0 ≤ num ∧ num ≤ 99) = true
        · rw [hb]; exact Ev.congr (fun k => if_pos rfl) (name true rfl)
        · rw [show decide (0 ≤ num ∧ num ≤ 99) = false from by simpa using hb]; exact Ev.congr (fun k => if_neg (by simp)) (J true)
    · have hnum : numOk op num = decide (num = 0) := by unfold numOk; rw [if_neg h1]
      by_cases h0 : num = 0
      · refine Ev.shift 1 (f := fun k => if op = 2 then ((spec_VarName.f k s).bind fun t => (if t = true then spec_ExprOk.j2 k (i : Int) false xs op num s ks else spec_ExprOk.j2 k (i : Int) true xs op num s ks)) else spec_ExprOk.j2 k (i : Int) (s.toList != ([] : List UInt8)) xs op num s ks) (fun k => ?_) ?_
        · rw [spec_ExprOk.j1, if_neg (by simp), if_neg h1, if_pos h0]
        · rw [hnum, show decide (num = 0) = true from decide_eq_true h0]
          exact name true rfl
      · refine Ev.shift 1 (f := fun k => spec_ExprOk.j2 k (i : Int) true xs op num s ks) (fun k => ?_) ?_
        · rw [spec_ExprOk.j1, if_neg (by simp), if_neg h1, if_neg h0]
        · rw [hnum, show decide (num = 0) = false from decide_eq_false h0]
          exact J true
end
theorem specKids_ev (op : Int) : Ev (fun k => spec_l04Kids.f k op) (kidsOf op) := by
  have j : ∀ b : Bool, Ev (fun k => spec_l04Kids.j0 k op b) (if b then 0 else if op = 11 then 1 else 2) := by
    intro b
    refine Ev.shift 1 (f := fun _ => some (if b then 0 else if op = 11 then 1 else 2)) (fun k => ?_) (Ev.now _)
    rw [spec_l04Kids.j0]
    cases b <;> simp
    split <;> rfl
  unfold spec_l04Kids.f kidsOf
  by_cases h1 : op = 1
  · rw [if_pos (.inl h1)]
    have e := j (op == 1)
    rw [show (op == 1) = true from by simpa using h1] at e
    exact Ev.congr (fun k => by rw [if_pos h1, show (op == 1) = true from by simpa using h1]) e
  · by_cases h2 : op = 2
    · rw [if_pos (.inr (.inl h2))]
      have e := j (op == 2)
      rw [show (op == 2) = true from by simpa using h2] at e
      exact Ev.congr (fun k => by rw [if_neg h1, if_pos h2, show (op == 2) = true from by simpa using h2]) e
    · by_cases h3 : op = 3
      · rw [if_pos (.inr (.inr h3))]
        have e := j (op == 3)
        rw [show (op == 3) = true from by simpa using h3] at e
        exact Ev.congr (fun k => by rw [if_neg h1, if_neg h2, show (op == 3) = true from by simpa using h3]) e
      · rw [if_neg (by rintro (h | h | h) <;> contradiction)]
        have e := j (op == 3)
        rw [show (op == 3) = false from by simpa using h3] at e
        exact Ev.congr (fun k => by rw [if_neg h1, if_neg h2, show (op == 3) = false from by simpa using h3]) e
theorem specExpr_l0 (xs : List S34) (hz : smallX xs) (d : Nat) : ∀ i : Nat, xs.length - i = d → i ≤ xs.length →
    Ev (fun k => spec_ExprOk.l0 k (i : Int) xs) (nodesB i (xs.drop i) && decide (1 ≤ (xs.length : Int) ∧ (xs.length : Int) ≤ 20)) := by
  have hl := hz.1
  induction d with
  | zero =>
    intro i hd hi
    refine Ev.shift 1 (f := fun _ => some _) (fun k => ?_) (Ev.now _)
    rw [spec_ExprOk.l0, if_neg (by omega), List.drop_eq_nil_of_le (by omega), l01In_is]; rfl
  | succ d ih =>
    intro i hd hi
    have hi2 : i < xs.length := by omega
    have e := ih (i + 1) (by omega) (by omega)
    have hy := hz.2 _ (List.getElem_mem hi2)
    rw [← w64_len hi2 (by omega)] at e
    have J := specExpr_j1 xs i xs[i].f0 xs[i].f1 xs[i].f2 xs[i].f3 _ (by omega) hy.2 hy.1 e
    rw [drop_get xs i hi2]
    refine Ev.shift 1 (f := fun k => (spec_l01In.f xs[i].f0 1 11).bind fun t => (if t = true then ((spec_l04Kids.f k xs[i].f0).bind fun t2 => (spec_ExprOk.j1 k (i : Int) (((xs[i].f3.length : Int)) != t2) xs xs[i].f0 xs[i].f1 xs[i].f2 xs[i].f3)) else (spec_ExprOk.j1 k (i : Int) true xs xs[i].f0 xs[i].f1 xs[i].f2 xs[i].f3))) (fun k => ?_) ?_
    · rw [spec_ExprOk.l0, if_pos (by omega), if_pos (by omega), rdE xs i hi2]
    · rw [l01In_is]
      simp only [Option.bind_some]
      have hgoal : (nodesB i (xs[i] :: xs.drop (i + 1)) && decide (1 ≤ (xs.length : Int) ∧ (xs.length : Int) ≤ 20)) = (if nodeB i xs[i] then nodesB (i + 1) (xs.drop (i + 1)) && decide (1 ≤ (xs.length : Int) ∧ (xs.length : Int) ≤ 20) else false) := by
        simp only [nodesB]; cases nodeB i xs[i] <;> simp
      rw [hgoal]
      by_cases hr : decide (1 ≤ xs[i].f0 ∧ xs[i].f0 ≤ 11) = true
      · refine Ev.congr (fun k => if_pos hr) (Ev.bind (specKids_ev _) ?_)
        have j := J ((xs[i].f3.length : Int) != kidsOf xs[i].f0)
        have hb : nodeB i xs[i] = (!((xs[i].f3.length : Int) != kidsOf xs[i].f0) && numOk xs[i].f0 xs[i].f1 && nameOk xs[i].f0 xs[i].f2 && kidsIn i xs[i].f3) := by
          unfold nodeB
          rw [hr, Bool.true_and]
          congr 3
          by_cases hq : (xs[i].f3.length : Int) = kidsOf xs[i].f0 <;> simp [hq]
        rw [hb]
        exact j
      · refine Ev.congr (fun k => if_neg hr) ?_
        have hb : nodeB i xs[i] = false := by unfold nodeB; rw [show decide (1 ≤ xs[i].f0 ∧ xs[i].f0 ≤ 11) = false from by simpa using hr]; simp
        rw [hb]
        exact J true
theorem specExprOk_ev (xs : List S34) (hz : smallX xs) : Ev (fun k => spec_ExprOk.f k xs) (exprOkB xs) :=
  specExpr_l0 xs hz xs.length 0 (by omega) (by omega)

/-! ### isSmall -/
theorem isSmall_is (s : ByteArray) (i : Int) : impl_isSmall.f (bt s i) = some (decide (97 ≤ bt s i ∧ bt s i ≤ 122)) := by
  unfold impl_isSmall.f
  rw [w64_bt, within_is]; rfl

/-! ### implVarName -/
theorem implVarName_l0 (s : ByteArray) (hs : s.size ≤ 140737488351232) (d : Nat) : ∀ (k i : Nat), s.size - i ≤ d → d < k →
    impl_VarName.l0 k s (s.size : Int) (i : Int) = some (((bs s).drop i).all small && decide (1 ≤ (s.size : Int) ∧ (s.size : Int) ≤ 4)) := by
  induction d with
  | zero =>
    intro k i hd hk
    obtain ⟨k, rfl⟩ : ∃ m, k = m + 1 := ⟨k - 1, by omega⟩
    simp only [impl_VarName.l0]
    rw [if_neg (by omega), within_is, bs_drop_nil s i (by omega)]; simp
  | succ d ih =>
    intro k i hd hk
    obtain ⟨k, rfl⟩ : ∃ m, k = m + 1 := ⟨k - 1, by omega⟩
    by_cases hi : i < s.size
    · have e := ih k (i + 1) (by omega) (by omega)
      simp only [impl_VarName.l0]
      rw [if_pos (by omega), if_pos (by omega), if_pos (by omega), isSmall_is, Option.bind_some, w64_succ hi hs, e, bs_drop s i hi]
      simp only [List.all_cons]
      by_cases h1 : 97 ≤ bt s i ∧ bt s i ≤ 122
      · rw [if_pos (by simpa using h1), show small (bt s i) = true from by simp [small]; omega]; simp
      · rw [if_neg (by simpa using h1), show small (bt s i) = false from by simp [small]; omega]; simp
    · simp only [impl_VarName.l0]
      rw [if_neg (by omega), within_is, bs_drop_nil s i (by omega)]; simp
theorem implVarName_is (s : ByteArray) (hs : s.size ≤ 140737488351232) (k : Nat) (hk : s.size < k) : impl_VarName.f k s = some (varNameB s) := by
  unfold impl_VarName.f
  exact implVarName_l0 s hs s.size k 0 (by omega) hk

/-! ### implExprOk -/
theorem implKidCount_is (op : Int) : impl_kidCount.f op = some (if 1 ≤ op ∧ op ≤ 11 then kidsOf op else -1) := by
  unfold impl_kidCount.f kidsOf
  rw [within_is, Option.bind_some]
  by_cases h1 : 1 ≤ op ∧ op ≤ 3
  · rw [if_pos (decide_eq_true h1), if_pos (by omega), if_pos (by omega)]
  · rw [if_neg (by simpa using h1), within_is, Option.bind_some]
    by_cases h2 : 4 ≤ op ∧ op ≤ 10
    · rw [if_pos (decide_eq_true h2), if_pos (by omega), if_neg (by omega), if_neg (by omega)]
    · rw [if_neg (by simpa using h2)]
      by_cases h3 : op = 11
      · rw [if_pos h3, if_pos (by omega), if_neg (by omega), if_pos h3]
      · rw [if_neg h3, if_neg (by omega)]
theorem implNode_j0 (op num : Int) (s : ByteArray) (hs : s.size ≤ 1048576) (ks : List Int) (b : Bool) (k : Nat) (hk : 1048577 < k) :
    impl_exNodeOk.j0 k b op num s ks = some (!b && numOk op num && nameOk op s) := by
  obtain ⟨k, rfl⟩ : ∃ m, k = m + 1 := ⟨k - 1, by omega⟩
  rw [impl_exNodeOk.j0]
  cases b with
  | true => rw [if_pos (show true = true from rfl)]; rfl
  | false =>
    rw [if_neg (by simp), implVarName_is s (by omega) k (by omega), within_is]
    simp only [Option.bind_some, Bool.not_false, Bool.true_and]
    unfold numOk nameOk
    by_cases h2 : op = 2
    · have h1 : ¬ op = 1 := by omega
      by_cases h0 : num = 0
      · by_cases he : s.toList = ([] : List UInt8)
        · simp [h2, h0, he]
        · simp [h2, h0, he]
      · by_cases he : s.toList = ([] : List UInt8)
        · simp [h2, h0, he]
        · simp [h2, h0, he]
    · by_cases h1 : op = 1
      · by_cases h0 : num = 0
        · by_cases he : s.toList = ([] : List UInt8)
          · simp [h1, h0, he]
          · simp [h1, h0, he]
        · by_cases he : s.toList = ([] : List UInt8)
          · by_cases hr : 0 ≤ num ∧ num ≤ 99
            · simp [h1, h0, he, hr]
            · simp [h1, h0, he, if_neg hr]; intro h; omega
          · by_cases hr : 0 ≤ num ∧ num ≤ 99
            · simp [h1, h0, he]
            · simp [h1, h0, he]
      · by_cases h0 : num = 0
        · by_cases he : s.toList = ([] : List UInt8)
          · simp [h1, h2, h0, he]
          · simp [h1, h2, h0, he]
        · by_cases he : s.toList = ([] : List UInt8)
          · simp [h1, h2, h0, he]
          · simp [h1, h2, h0, he]
theorem implNode_is (i : Nat) (hi : i ≤ 1048576) (y : S34) (hy : y.f2.size ≤ 1048576 ∧ y.f3.length ≤ 1048576) (k : Nat) (hk : 1048577 < k) : impl_exNodeOk.f k y.f0 y.f1 y.f2 y.f3 (i : Int) = some (nodeB i y) := by
  unfold impl_exNodeOk.f nodeB
  rw [implKidCount_is, Option.bind_some]
  by_cases hr : 1 ≤ y.f0 ∧ y.f0 ≤ 11
  · rw [if_pos hr, show decide (1 ≤ y.f0 ∧ y.f0 ≤ 11) = true from decide_eq_true hr, Bool.true_and]
    by_cases hq : (y.f3.length : Int) = kidsOf y.f0
    · rw [if_pos hq, implKidsAhead_is y.f3 hy.2 i (by omega) k (by omega), Option.bind_some, implNode_j0 _ _ _ hy.1 _ _ k hk, show decide ((y.f3.length : Int) = kidsOf y.f0) = true from decide_eq_true hq]
      congr 1
      cases kidsIn i y.f3 <;> simp
    · rw [if_neg hq, implNode_j0 _ _ _ hy.1 _ _ k hk, show decide ((y.f3.length : Int) = kidsOf y.f0) = false from decide_eq_false hq]; simp
  · rw [if_neg hr, show decide (1 ≤ y.f0 ∧ y.f0 ≤ 11) = false from decide_eq_false hr, if_neg (by omega), implNode_j0 _ _ _ hy.1 _ _ k hk]; simp
theorem implExprOk_is (xs : List S34) (hz : smallX xs) (k : Nat) (hk : xs.length + 1048578 < k) : impl_ExprOk.f k xs = some (exprOkB xs) := by
  have hl := hz.1
  have go : ∀ (d k i : Nat), xs.length - i ≤ d → d + 1048578 < k → impl_ExprOk.l0 k xs (xs.length : Int) (i : Int) xs = some (nodesB i (xs.drop i) && decide (1 ≤ (xs.length : Int) ∧ (xs.length : Int) ≤ 20)) := by
    intro d
    induction d with
    | zero =>
      intro k i hd hk
      obtain ⟨k, rfl⟩ : ∃ m, k = m + 1 := ⟨k - 1, by omega⟩
      rw [impl_ExprOk.l0, if_neg (by omega), List.drop_eq_nil_of_le (by omega), within_is]; rfl
    | succ d ih =>
      intro k i hd hk
      obtain ⟨k, rfl⟩ : ∃ m, k = m + 1 := ⟨k - 1, by omega⟩
      by_cases hi : i < xs.length
      · have hy := hz.2 _ (List.getElem_mem hi)
        rw [impl_ExprOk.l0, if_pos (by omega), if_pos (by omega), if_pos (by omega), rdE xs i hi, implNode_is i (by omega) _ hy k (by omega), Option.bind_some, w64_len hi (by omega), ih k (i + 1) (by omega) (by omega), drop_get xs i hi]
        simp only [nodesB]
        cases nodeB i xs[i] <;> simp
      · rw [impl_ExprOk.l0, if_neg (by omega), List.drop_eq_nil_of_le (by omega), within_is]; rfl
  unfold impl_ExprOk.f
  exact go xs.length k 0 (by omega) (by omega)

/-! ### markT -/
/-! the laws' marks: what is written into a list of names is read again -/
theorem mono_le {α : Type} {f : Nat → Option α} (h : ∀ k, LeO (f k) (f (k + 1))) {a b : Nat} (hab : a ≤ b) : LeO (f a) (f b) := by
  induction hab with
  | refl => exact LeO.refl _
  | step _ ih => exact LeO.trans ih (h _)
theorem markText_l0 (d : Nat) : ∀ (n : Int) (acc : ByteArray) (k : Nat), 0 ≤ n → n ≤ 9223372036854775807 → n < (10 : Int) ^ d → acc.size + d ≤ 1000 → d < k → ∃ t, laws_markText.l0 k n acc = some t := by
  induction d with
  | zero =>
    intro n acc k h0 hbig h1 hs hk
    obtain ⟨k, rfl⟩ : ∃ m, k = m + 1 := ⟨k - 1, by omega⟩
    have h1' : n < 1 := by simpa using h1
    rw [laws_markText.l0, if_neg (by omega), if_pos (by omega)]
    exact ⟨_, rfl⟩
  | succ d ih =>
    intro n acc k h0 hbig h1 hs hk
    obtain ⟨k, rfl⟩ : ∃ m, k = m + 1 := ⟨k - 1, by omega⟩
    by_cases hn : n > 0
    · have hsz : ∀ x : Int, (strOfNums [x]).size = 1 := fun x => str_size [x]
      have hq : wrap64 (Int.tdiv n 10) = n / 10 := by rw [tdiv_e h0, w64 (by omega) (by omega)]
      rw [laws_markText.l0, if_pos hn, Option.bind_some, hsz, if_pos (by omega), hq]
      refine ih _ _ k (by omega) (by omega) ?_ ?_ (by omega)
      · rw [Int.pow_succ] at h1; omega
      · rw [ByteArray.size_append, hsz]; omega
    · rw [laws_markText.l0, if_neg hn, if_pos (by omega)]
      exact ⟨_, rfl⟩
/-- The text that a number is marked with. -/
def mkT (a : Int) : ByteArray := (laws_markText.f 14 a).getD ⟨#[]⟩
theorem mkT_is (a : Int) (h0 : 0 ≤ a) (h1 : a ≤ 1000000000000) (k : Nat) (hk : 14 ≤ k) : laws_markText.f k a = some (mkT a) := by
  have ht : ∃ t, laws_markText.f 14 a = some t := by
    unfold laws_markText.f
    by_cases h : a ≤ 0
    · rw [if_pos h]; exact ⟨_, rfl⟩
    · rw [if_neg h]
      exact markText_l0 13 a _ 14 h0 (by omega) (by omega) (by show 0 + 13 ≤ 1000; omega) (by omega)
  obtain ⟨t, ht⟩ := ht
  have := mono_le (f := fun k => laws_markText.f k a) (fun k => laws_markText.mono a k) hk t ht
  unfold mkT
  rw [ht]
  exact this

/-! ### markStr -/
/-! the laws' marks: what is written into a list of strings is read again -/
theorem rdStr (xs : List ByteArray) (i : Nat) (h : i < xs.length) : rdOf ByteArray.empty xs (i : Int) = xs[i] := by
  unfold rdOf
  rw [Int.toNat_natCast, List.getD_eq_getElem?_getD, List.getElem?_eq_getElem h, Option.getD_some]
def markedS : Nat → Int → List ByteArray
  | 0, _ => []
  | n + 1, a => mkT a :: markedS n (a + 1)
theorem markedS_length (n : Nat) : ∀ a, (markedS n a).length = n := by
  induction n with
  | zero => intro a; rfl
  | succ n ih => intro a; simp [markedS, ih]
theorem w64_a (a : Int) (h0 : 0 ≤ a) (h1 : a ≤ 1000000000) : wrap64 (a + 1) = a + 1 := w64 (by omega) (by omega)
theorem markStringS_l0 (d : Nat) : ∀ (k i : Nat) (xs : List ByteArray) (a : Int), xs.length - i ≤ d → d + 15 ≤ k → i ≤ xs.length → xs.length ≤ 100000000 → 0 ≤ a → a ≤ 1 + (i : Int) →
    laws_markStringS.l0 k xs a (i : Int) = some (a + ((xs.length - i : Nat) : Int), xs.take i ++ markedS (xs.length - i) a) := by
  induction d with
  | zero =>
    intro k i xs a hd hk hi hl h0 h1
    obtain ⟨k, rfl⟩ : ∃ m, k = m + 1 := ⟨k - 1, by omega⟩
    rw [laws_markStringS.l0, if_neg (by omega), List.take_of_length_le (by omega), show xs.length - i = 0 from by omega]
    simp [markedS]
  | succ d ih =>
    intro k i xs a hd hk hi hl h0 h1
    obtain ⟨k, rfl⟩ : ∃ m, k = m + 1 := ⟨k - 1, by omega⟩
    by_cases hi2 : i < xs.length
    · have hr := ih k (i + 1) (xs.set i (mkT a)) (a + 1) (by rw [List.length_set]; omega) (by omega) (by rw [List.length_set]; omega) (by rw [List.length_set]; omega) (by omega) (by omega)
      rw [List.length_set] at hr
      rw [laws_markStringS.l0, if_pos (by omega), mkT_is a h0 (by omega) k (by omega), Option.bind_some, if_pos (by omega), w64_len hi2 (by omega), w64_a a h0 (by omega), Int.toNat_natCast, hr, take_set xs i _ hi2, show xs.length - i = (xs.length - (i + 1)) + 1 from by omega, markedS, List.append_assoc]
      congr 2
      omega
    · rw [laws_markStringS.l0, if_neg (by omega), List.take_of_length_le (by omega), show xs.length - i = 0 from by omega]
      simp [markedS]
theorem markStringS_is (xs : List ByteArray) (hl : xs.length ≤ 100000000) (k : Nat) (hk : xs.length + 15 ≤ k) : laws_markStringS.f k xs 1 = some (1 + (xs.length : Int), markedS xs.length 1) := by
  have := markStringS_l0 xs.length k 0 xs 1 (by omega) hk (by omega) hl (by omega) (by omega)
  simp only [List.take_zero, List.nil_append, Nat.sub_zero] at this
  exact this
theorem heldStringS_l0 (n : Nat) (hn : n ≤ 100000000) (d : Nat) : ∀ (k i : Nat) (pre : List ByteArray) (a : Int), d + i = n → pre.length = i → d + 15 ≤ k → 0 ≤ a → a ≤ 1 + (i : Int) →
    laws_heldStringS.l0 k (pre ++ markedS d a) a (i : Int) = some (a + (d : Int)) := by
  induction d with
  | zero =>
    intro k i pre a hd hp hk h0 h1
    obtain ⟨k, rfl⟩ : ∃ m, k = m + 1 := ⟨k - 1, by omega⟩
    rw [laws_heldStringS.l0, if_neg (by rw [List.length_append, markedS_length]; omega)]
    simp
  | succ d ih =>
    intro k i pre a hd hp hk h0 h1
    obtain ⟨k, rfl⟩ : ∃ m, k = m + 1 := ⟨k - 1, by omega⟩
    have hl : (pre ++ markedS (d + 1) a).length = n := by rw [List.length_append, markedS_length]; omega
    have hg : rdOf ByteArray.empty (pre ++ markedS (d + 1) a) (i : Int) = mkT a := by
      unfold rdOf
      rw [Int.toNat_natCast, List.getD_eq_getElem?_getD, List.getElem?_append_right (by omega), hp, Nat.sub_self]
      rfl
    have hr := ih k (i + 1) (pre ++ [mkT a]) (a + 1) (by omega) (by rw [List.length_append, hp]; rfl) (by omega) (by omega) (by omega)
    rw [List.append_assoc] at hr
    rw [laws_heldStringS.l0, if_pos (by omega), if_pos (by omega), mkT_is a h0 (by omega) k (by omega), Option.bind_some, hg, if_pos rfl, w64_a a h0 (by omega), w64_len (n := n) (by omega) (by omega)]
    show laws_heldStringS.l0 k (pre ++ ([mkT a] ++ markedS d (a + 1))) (a + 1) ((i + 1 : Nat) : Int) = _
    rw [hr]
    congr 1
    omega
theorem heldStringS_is (n : Nat) (hn : n ≤ 100000000) (k : Nat) (hk : n + 15 ≤ k) : laws_heldStringS.f k (markedS n 1) 1 = some (1 + (n : Int)) := by
  have := heldStringS_l0 n hn n k 0 [] 1 (by omega) rfl hk (by omega) (by omega)
  rw [List.nil_append] at this
  exact this
theorem eqStringS_l0 (xs : List ByteArray) (hl : xs.length ≤ 100000000) (d : Nat) : ∀ (k i : Nat), xs.length - i ≤ d → d < k → laws_eqStringS.l0 k xs xs (i : Int) = some true := by
  induction d with
  | zero =>
    intro k i hd hk
    obtain ⟨k, rfl⟩ : ∃ m, k = m + 1 := ⟨k - 1, by omega⟩
    rw [laws_eqStringS.l0, if_neg (by omega)]
  | succ d ih =>
    intro k i hd hk
    obtain ⟨k, rfl⟩ : ∃ m, k = m + 1 := ⟨k - 1, by omega⟩
    by_cases hi : i < xs.length
    · rw [laws_eqStringS.l0, if_pos (by omega), if_pos (by omega), if_pos (by omega), if_pos rfl, w64_len hi (by omega)]
      exact ih k (i + 1) (by omega) (by omega)
    · rw [laws_eqStringS.l0, if_neg (by omega)]
theorem eqStringS_self (xs : List ByteArray) (hl : xs.length ≤ 100000000) (k : Nat) (hk : xs.length < k) : laws_eqStringS.f k xs xs = some true := by
  unfold laws_eqStringS.f
  rw [if_pos rfl]
  exact eqStringS_l0 xs hl xs.length k 0 (by omega) hk

/-! ### freeOf -/
/-! the names that an expression is free in: plain -/
def names (xs : List S34) : List ByteArray := xs.filterMap fun x => if x.f0 = 2 then some x.f2 else none
def putS (L : List ByteArray) (s : ByteArray) : List ByteArray := L.filter (fun x => decide (x.data.toList < s.data.toList)) ++ (s :: L.filter (fun x => decide (s.data.toList < x.data.toList)))
theorem putS_map (L : List ByteArray) (s : ByteArray) : (putS L s).map SSrt.s2l = putL (L.map SSrt.s2l) (SSrt.s2l s) := by
  unfold putS putL
  rw [List.map_append, List.map_cons, List.filter_map, List.filter_map]
  rfl
theorem fold_map (N : List ByteArray) : ∀ L : List ByteArray, (N.foldl putS L).map SSrt.s2l = (N.map SSrt.s2l).foldl putL (L.map SSrt.s2l) := by
  induction N with
  | nil => intro L; rfl
  | cons s N ih => intro L; rw [List.foldl_cons, ih, List.map_cons, List.foldl_cons, putS_map]
theorem map_id2 (L : List ByteArray) : (L.map SSrt.s2l).map SSrt.l2s = L := by
  rw [List.map_map]
  conv => rhs; rw [← List.map_id L]
  exact List.map_congr_left fun x _ => SSrt.l2s_s2l x
theorem map_id3 (L : List (List UInt8)) : (L.map SSrt.l2s).map SSrt.s2l = L := by
  rw [List.map_map]
  conv => rhs; rw [← List.map_id L]
  exact List.map_congr_left fun x _ => SSrt.s2l_l2s x
theorem sorted_put (N : List ByteArray) : SSrt.scomp (SSrt.ssort N) = N.foldl putS [] := by
  unfold SSrt.scomp SSrt.ssort
  rw [map_id3, sort_put, ← map_id2 (N.foldl putS []), fold_map]
  rfl
theorem w64_q {i n : Nat} (h : i < n) (hn : n ≤ 100000000) : wrap64 ((i : Int) + 1) = ((i + 1 : Nat) : Int) := by rw [w64 (by omega) (by omega)]; omega
theorem less_is (x y : ByteArray) : Op.bytesLess x.toList y.toList = decide (x.data.toList < y.data.toList) := by
  rw [ByteArray.toList_eq, ByteArray.toList_eq]
  exact Go.Proofs.bytesLess_eq _ _
theorem rdSt (xs : List ByteArray) (i : Nat) (h : i < xs.length) : rdOf ByteArray.empty xs (i : Int) = xs[i] := by
  unfold rdOf
  rw [Int.toNat_natCast, List.getD_eq_getElem?_getD, List.getElem?_eq_getElem h, Option.getD_some]
theorem put_l1 (L : List ByteArray) (hL : L.length ≤ 1000) (s : ByteArray) (d : Nat) : ∀ (k i : Nat) (acc : List ByteArray), L.length - i = d → d < k → i ≤ L.length → acc.length ≤ 5000 + i → spec_l03Put.l1 k L s acc (i : Int) = some (acc ++ (L.drop i).filter (fun x => decide (s.data.toList < x.data.toList))) := by
  induction d with
  | zero =>
    intro k i acc hd hk hi ha
    obtain ⟨k, rfl⟩ : ∃ m, k = m + 1 := ⟨k - 1, by omega⟩
    rw [spec_l03Put.l1, if_neg (by omega), List.drop_eq_nil_of_le (by omega)]
    simp
  | succ d ih =>
    intro k i acc hd hk hi ha
    obtain ⟨k, rfl⟩ : ∃ m, k = m + 1 := ⟨k - 1, by omega⟩
    have hlt : i < L.length := by omega
    rw [spec_l03Put.l1, if_pos (by omega), if_pos (by omega), rdSt L i hlt, less_is, w64_q hlt (by omega), List.drop_eq_getElem_cons hlt, List.filter_cons]
    by_cases c : decide (s.data.toList < L[i].data.toList) = true
    · rw [if_pos c, if_pos c, if_pos (by omega), ih k (i + 1) _ (by omega) (by omega) (by omega) (by rw [List.length_append, List.length_singleton]; omega), List.append_assoc]
      rfl
    · rw [if_neg c, if_neg c, ih k (i + 1) _ (by omega) (by omega) (by omega) (by omega)]
theorem put_l0 (L : List ByteArray) (hL : L.length ≤ 1000) (s : ByteArray) (d : Nat) : ∀ (k i : Nat) (acc : List ByteArray), L.length - i = d → d + L.length + 5 < k → i ≤ L.length → acc.length ≤ i → spec_l03Put.l0 k L s acc (i : Int) = some (acc ++ ((L.drop i).filter (fun x => decide (x.data.toList < s.data.toList)) ++ (s :: L.filter (fun x => decide (s.data.toList < x.data.toList))))) := by
  induction d with
  | zero =>
    intro k i acc hd hk hi ha
    obtain ⟨k, rfl⟩ : ∃ m, k = m + 1 := ⟨k - 1, by omega⟩
    have h1 := put_l1 L hL s L.length k 0 (acc ++ [s]) (by omega) (by omega) (by omega) (by rw [List.length_append, List.length_singleton]; omega)
    rw [spec_l03Put.l0, if_neg (by omega), if_pos (by omega), List.drop_eq_nil_of_le (by omega), List.filter_nil, List.nil_append]
    rw [show ((0 : Nat) : Int) = 0 from rfl, List.drop_zero, List.append_assoc] at h1
    exact h1
  | succ d ih =>
    intro k i acc hd hk hi ha
    obtain ⟨k, rfl⟩ : ∃ m, k = m + 1 := ⟨k - 1, by omega⟩
    have hlt : i < L.length := by omega
    rw [spec_l03Put.l0, if_pos (by omega), if_pos (by omega), rdSt L i hlt, less_is, w64_q hlt (by omega), List.drop_eq_getElem_cons hlt, List.filter_cons]
    by_cases c : decide (L[i].data.toList < s.data.toList) = true
    · rw [if_pos c, if_pos c, if_pos (by omega), ih k (i + 1) _ (by omega) (by omega) (by omega) (by rw [List.length_append, List.length_singleton]; omega), List.append_assoc]
      rfl
    · rw [if_neg c, if_neg c, ih k (i + 1) _ (by omega) (by omega) (by omega) (by omega)]
theorem put_is (L : List ByteArray) (hL : L.length ≤ 1000) (s : ByteArray) (k : Nat) (hk : 2 * L.length + 5 < k) : spec_l03Put.f k L s = some (putS L s) := by
  have h := put_l0 L hL s L.length k 0 [] (by omega) (by omega) (by omega) (by simp)
  exact h
theorem two_filters (s : List UInt8) (L : List ByteArray) : (L.filter (fun x : ByteArray => decide (x.data.toList < s))).length + (L.filter (fun x : ByteArray => decide (s < x.data.toList))).length ≤ L.length := by
  induction L with
  | nil => simp
  | cons x L ih =>
    rw [List.filter_cons, List.filter_cons]
    by_cases c : x.data.toList < s
    · rw [decide_eq_true c, if_pos rfl, decide_eq_false (lb_asymm c), if_neg (by simp)]
      simp only [List.length_cons]; omega
    · rw [decide_eq_false c, if_neg (by simp)]
      split <;> simp only [List.length_cons] <;> omega
theorem putS_length (L : List ByteArray) (s : ByteArray) : (putS L s).length ≤ L.length + 1 := by
  unfold putS
  have h := two_filters s.data.toList L
  rw [List.length_append, List.length_cons]
  omega
theorem rdEN (xs : List S34) (i : Nat) (h : i < xs.length) : rd_T34 xs (i : Int) = xs[i] := by simp [rd_T34, List.getD, h]
theorem names_cons (x : S34) (l : List S34) : names (x :: l) = if x.f0 = 2 then x.f2 :: names l else names l := by
  unfold names
  rw [List.filterMap_cons]
  by_cases h : x.f0 = 2
  · rw [if_pos h, if_pos h]
  · rw [if_neg h, if_neg h]
theorem specFree_l0 (xs : List S34) (hl : xs.length ≤ 20) (d : Nat) : ∀ (k i : Nat) (L : List ByteArray), xs.length - i = d → i ≤ xs.length → L.length ≤ i → d + 1000 ≤ k → spec_FreeOf.l0 k L (i : Int) xs = some ((names (xs.drop i)).foldl putS L) := by
  induction d with
  | zero =>
    intro k i L hd hi hL hk
    obtain ⟨k, rfl⟩ : ∃ m, k = m + 1 := ⟨k - 1, by omega⟩
    rw [spec_FreeOf.l0, if_neg (by omega), List.drop_eq_nil_of_le (by omega)]
    rfl
  | succ d ih =>
    intro k i L hd hi hL hk
    obtain ⟨k, rfl⟩ : ∃ m, k = m + 1 := ⟨k - 1, by omega⟩
    have hlt : i < xs.length := by omega
    rw [spec_FreeOf.l0, if_pos (by omega), if_pos (by omega), rdEN xs i hlt, w64_q hlt (by omega), List.drop_eq_getElem_cons hlt, names_cons]
    by_cases c : xs[i].f0 = 2
    · have := putS_length L xs[i].f2
      rw [if_pos c, if_pos c, put_is L (by omega) _ k (by omega), Option.bind_some, ih k (i + 1) _ (by omega) (by omega) (by omega) (by omega)]
      rfl
    · rw [if_neg c, if_neg c, ih k (i + 1) _ (by omega) (by omega) (by omega) (by omega)]
theorem implFree_l0 (xs : List S34) (hl : xs.length ≤ 20) (d : Nat) : ∀ (k i : Nat) (L : List ByteArray), xs.length - i = d → i ≤ xs.length → L.length ≤ i → d + 10 ≤ k → impl_FreeOf.l0 k L xs (xs.length : Int) (i : Int) = some (SSrt.scomp (SSrt.ssort (L ++ names (xs.drop i)))) := by
  induction d with
  | zero =>
    intro k i L hd hi hL hk
    obtain ⟨k, rfl⟩ : ∃ m, k = m + 1 := ⟨k - 1, by omega⟩
    rw [impl_FreeOf.l0, if_neg (by omega), List.drop_eq_nil_of_le (by omega)]
    unfold slices_Sort_string_string.f slices_Compact_string_string.f
    rw [if_pos (by omega), Option.bind_some, if_pos (by rw [SSrt.ssort_length]; omega), Option.bind_some]
    have : names [] = [] := rfl
    rw [this, List.append_nil]
  | succ d ih =>
    intro k i L hd hi hL hk
    obtain ⟨k, rfl⟩ : ∃ m, k = m + 1 := ⟨k - 1, by omega⟩
    have hlt : i < xs.length := by omega
    rw [impl_FreeOf.l0, if_pos (by omega), if_pos (by omega), if_pos (by omega), rdEN xs i hlt, w64_q hlt (by omega), List.drop_eq_getElem_cons hlt, names_cons]
    by_cases c : xs[i].f0 = 2
    · rw [if_pos c, if_pos c, if_pos (by omega), ih k (i + 1) _ (by omega) (by omega) (by rw [List.length_append, List.length_singleton]; omega) (by omega), List.append_assoc]
      rfl
    · rw [if_neg c, if_neg c, ih k (i + 1) _ (by omega) (by omega) (by omega) (by omega)]
def freeR (xs : List S34) : List ByteArray := if exprOkB xs = true then (names xs).foldl putS [] else []
theorem okB_len {xs : List S34} (h : exprOkB xs = true) : xs.length ≤ 20 := by
  unfold exprOkB at h
  rw [Bool.and_eq_true] at h
  have := of_decide_eq_true h.2
  omega
theorem specFree_ev (xs : List S34) (hz : smallX xs) : Ev (fun k => spec_FreeOf.f k xs) (freeR xs) := by
  unfold spec_FreeOf.f freeR
  refine Ev.congr (fun k => Option.bind_some _ _) (Ev.bind (specExprOk_ev xs hz) ?_)
  by_cases h : exprOkB xs = true
  · rw [if_pos h]
    refine Ev.congr (fun k => if_pos h) (Ev.from 2000 fun k hk => ?_)
    exact specFree_l0 xs (okB_len h) xs.length k 0 [] (by omega) (by omega) (by simp) (by have := okB_len h; omega)
  · rw [if_neg h]
    exact Ev.congr (f := fun _ => some []) (fun k => if_neg h) (Ev.now _)
theorem implFree_ev (xs : List S34) (hz : smallX xs) : Ev (fun k => impl_FreeOf.f k xs) (freeR xs) := by
  unfold impl_FreeOf.f freeR
  refine Ev.congr (fun k => Option.bind_some _ _) (Ev.bind (Ev.from (xs.length + 1048578) (implExprOk_is _ hz)) ?_)
  by_cases h : exprOkB xs = true
  · rw [if_pos h, ← sorted_put]
    refine Ev.congr (fun k => if_pos h) (Ev.from 2000 fun k hk => ?_)
    exact implFree_l0 xs (okB_len h) xs.length k 0 [] (by omega) (by omega) (by simp) (by have := okB_len h; omega)
  · rw [if_neg h]
    exact Ev.congr (f := fun _ => some []) (fun k => if_neg h) (Ev.now _)

/-! ### FnExactFreeOf -/
theorem freeR_len (xs : List S34) : (freeR xs).length ≤ 20 := by
  unfold freeR
  split
  · rename_i h
    have hl := okB_len h
    have go : ∀ (N : List ByteArray) (L : List ByteArray), (N.foldl putS L).length ≤ L.length + N.length := by
      intro N
      induction N with
      | nil => intro L; exact Nat.le_refl _
      | cons s N ih =>
        intro L
        have h1 := ih (putS L s)
        have h2 := putS_length L s
        rw [List.foldl_cons, List.length_cons]
        omega
    have h1 := go (names xs) []
    have h2 : (names xs).length ≤ xs.length := List.length_filterMap_le _ _
    simp only [List.length_nil] at h1
    omega
  · simp
theorem markSum_bound (l : List S34) (B : Nat) (h : ∀ y ∈ l, y.f3.length ≤ B) : markSum l ≤ l.length * (3 + B) := by
  induction l with
  | nil => exact Nat.zero_le _
  | cons x l ih =>
    have e : markSum (x :: l) = (3 + x.f3.length) + markSum l := by simp [markSum]
    have hx := h x (List.mem_cons_self ..)
    have hl := ih (fun y hy => h y (List.mem_cons_of_mem _ hy))
    rw [e, List.length_cons, Nat.add_mul, Nat.one_mul]
    omega
theorem FnExactFreeOf : laws_FnExactFreeOf.Pure := by
  intro xs hx hl
  have hl : xs.length ≤ 9223372036854775807 := by unfold maxLen at hl; exact hl
  refine Ev.rounds (r := true) ?_
  unfold laws_FnExactFreeOf.f
  obtain ⟨r, e, hz⟩ := szExpr_ev xs hx hl 1048576 (by omega) (by omega)
  refine Ev.bind e ?_
  by_cases h0 : r < 0
  · exact Ev.congr (f := fun _ => some true) (fun k => if_pos h0) (Ev.now _)
  have hz := (hz (by omega)).2
  have hi : smallX (xs.map toEN) := smallEI_of hz
  have et : Ev (fun k => laws_toExpr.f k xs) (xs.map toEN) := Ev.from (1048577 + xs.length) (toExpr_is xs hz)
  have hn := freeR_len (xs.map toEN)
  have hsum : markSum (xs.map toEN) ≤ 1048576 * 1048579 := Nat.le_trans (markSum_bound _ 1048576 (fun y hy => (hi.2 y hy).2)) (Nat.mul_le_mul hi.1 (Nat.le_refl _))
  have hme : laws_markExpr.f (xs.map toEN) 1 = some (1 + (markSum (xs.map toEN) : Int)) := by
    unfold laws_markExpr.f
    rw [if_pos (by omega), if_pos (by omega)]
  have eself : Ev (fun k => laws_eqStringS.f k (freeR (xs.map toEN)) (freeR (xs.map toEN))) true := Ev.from 100 fun k hk => eqStringS_self _ (by omega) k (by omega)
  have emark : Ev (fun k => laws_markStringS.f k (freeR (xs.map toEN)) 1) (1 + ((freeR (xs.map toEN)).length : Int), markedS (freeR (xs.map toEN)).length 1) := Ev.from 100 fun k hk => markStringS_is _ (by omega) k (by omega)
  have eheld : Ev (fun k => laws_heldStringS.f k (markedS (freeR (xs.map toEN)).length 1) 1) (1 + ((freeR (xs.map toEN)).length : Int)) := Ev.from 100 fun k hk => heldStringS_is _ (by omega) k (by omega)
  refine Ev.congr (fun k => if_neg h0) (Ev.bind et (Ev.bind (specFree_ev _ hi) (Ev.bind et (Ev.bind (implFree_ev _ hi) (Ev.bind eself ?_)))))
  refine Ev.congr (fun k => if_pos rfl) (Ev.bind et (Ev.bind (Ev.from (1048577 + (xs.map toEN).length) (eqExpr_self _ hi)) ?_))
  refine Ev.congr (fun k => if_pos rfl) ?_
  refine Ev.congr (fun k => by rw [hme, Option.bind_some, if_neg (by omega)]) (Ev.bind eself ?_)
  refine Ev.shift 1 (fun k => by rw [laws_FnExactFreeOf.j0, if_neg (by simp)]) (Ev.bind emark (Ev.bind eheld ?_))
  refine Ev.congr (fun k => by rw [if_neg (by omega), if_pos rfl]) (Ev.bind et (Ev.bind (implFree_ev _ hi) (Ev.bind eself ?_)))
  refine Ev.congr (fun k => if_pos rfl) (Ev.bind eheld ?_)
  exact Ev.congr (f := fun _ => some true) (fun k => by rw [if_neg (by omega), if_pos rfl]) (Ev.now _)

end Go.Proofs.Ytnmhggdaccbbfaa.Pure
