/- FnExactInSet without Go: at every string and byte the program's InSet and the reference's answer the same. -/
import Derived.Test.YtbkncnlehlldeaaMFnExactInSetx2
import Derived.Lib.Bytealg
set_option linter.unusedVariables false
set_option linter.unusedSimpArgs false
set_option maxHeartbeats 400000
namespace Go.Proofs.Ytbkncnlehlldeaa.Pure
open Go.RowKit Go.Proofs.Ytbkncnlehlldeaa.MFnExactInSet Go.Proofs.YtbkncnlehlldeaaW.PrintWords Go.Proofs.YtbkncnlehlldeaaW.PrintLast
/-! ### base -/
theorem w64 {n : Int} (h : -9223372036854775808 ≤ n) (h' : n ≤ 9223372036854775807) : wrap64 n = n := by unfold wrap64; omega
theorem w64_succ {i m : Nat} (h : i < m) (hm : m ≤ 140737488351232) : wrap64 ((i : Int) + 1) = ((i + 1 : Nat) : Int) := by
  rw [w64 (by omega) (by omega)]; omega
theorem w64_bt (s : ByteArray) (i : Int) : wrap64 (bt s i) = bt s i := by
  have := bt_range s i
  exact w64 (by omega) (by omega)
/-- A string's bytes as numbers. -/
def bs (s : ByteArray) : List Int := s.data.toList.map fun b => (b.toNat : Int)
theorem bs_length (s : ByteArray) : (bs s).length = s.size := by simp [bs]
theorem bs_get (s : ByteArray) (i : Nat) (h : i < s.size) : (bs s)[i]? = some (bt s i) := by
  have h2 : i < s.data.toList.length := by simpa using h
  simp only [bs, List.getElem?_map, List.getElem?_eq_getElem h2, Option.map_some]
  unfold bt
  rw [dif_pos (by simpa using h)]
  rfl
theorem bs_drop (s : ByteArray) (i : Nat) (h : i < s.size) : (bs s).drop i = bt s i :: (bs s).drop (i + 1) := by
  have h2 : i < (bs s).length := by rw [bs_length]; exact h
  rw [List.drop_eq_getElem_cons h2]
  congr 1
  have := bs_get s i h
  rw [List.getElem?_eq_getElem h2] at this
  exact Option.some.inj this
theorem bs_drop_nil (s : ByteArray) (i : Nat) (h : s.size ≤ i) : (bs s).drop i = [] := List.drop_eq_nil_of_le (by rw [bs_length]; exact h)
theorem bs_range {s : ByteArray} {c : Int} (h : c ∈ bs s) : 0 ≤ c ∧ c ≤ 255 := by
  simp only [bs, List.mem_map] at h
  obtain ⟨b, _, rfl⟩ := h
  have := b.toNat_lt
  omega
theorem bs_inj {s t : ByteArray} (h : bs s = bs t) : s = t := by
  have hd : s.data.toList = t.data.toList := by
    refine List.map_inj_right (f := fun b : UInt8 => (b.toNat : Int)) (fun a b hab => ?_) |>.1 h
    have hab2 : (a.toNat : Int) = b.toNat := hab
    exact UInt8.toNat_inj.1 (by omega)
  cases s; cases t
  simp only [ByteArray.mk.injEq]
  exact Array.toList_inj.1 hd
theorem bs_str {xs : List Int} (h : ∀ x ∈ xs, 0 ≤ x ∧ x ≤ 255) : bs (strOfNums xs) = xs := by
  unfold bs strOfNums
  simp only [List.map_map]
  conv => rhs; rw [← List.map_id xs]
  refine List.map_congr_left fun x hx => ?_
  have := h x hx
  simp only [Function.comp, id, UInt8.toNat_ofNat']
  omega
theorem str_bs (s : ByteArray) : strOfNums (bs s) = s := bs_inj (bs_str fun _ hx => bs_range hx)
theorem str_size (xs : List Int) : (strOfNums xs).size = xs.length := by
  show ((xs.map fun n => UInt8.ofNat n.toNat).toArray).size = xs.length
  simp
theorem bs_append (s t : ByteArray) : bs (s ++ t) = bs s ++ bs t := by
  simp [bs]
theorem bs_empty : bs (⟨#[]⟩ : ByteArray) = [] := rfl
theorem bt_str {xs : List Int} (h : ∀ x ∈ xs, 0 ≤ x ∧ x ≤ 255) (i : Nat) (hi : i < xs.length) : bt (strOfNums xs) i = rd xs i := by
  have h1 := bs_get (strOfNums xs) i (by rw [str_size]; exact hi)
  rw [bs_str h] at h1
  unfold rd
  rw [List.getD_eq_getElem?_getD, Int.toNat_natCast, h1]
  rfl
theorem bt_bs (s : ByteArray) (i : Int) : bt s i = rd (bs s) i := by
  unfold rd
  rw [List.getD_eq_getElem?_getD]
  by_cases h : i.toNat < s.size
  · have := bs_get s i.toNat h
    rw [this]
    unfold bt
    simp only [Int.toNat_natCast]
    rw [dif_pos h]
    rfl
  · rw [List.getElem?_eq_none (by rw [bs_length]; omega)]
    unfold bt
    rw [dif_neg h]
    rfl
theorem toList_eq {s t : ByteArray} : s.toList = t.toList ↔ s = t := by
  rw [ByteArray.toList_eq, ByteArray.toList_eq]
  constructor
  · intro h; cases s; cases t; simpa [Array.toList_inj] using h
  · rintro rfl; rfl
theorem tdiv_e {n : Int} (h : 0 ≤ n) (m : Int) : Int.tdiv n m = n / m := Int.tdiv_eq_ediv_of_nonneg h
theorem tmod_e {n : Int} (h : 0 ≤ n) (m : Int) : Int.tmod n m = n % m := Int.tmod_eq_emod_of_nonneg h

/-! ### within -/
theorem within_is (a b c : Int) : impl_within.f a b c = some (decide (b ≤ a ∧ a ≤ c)) := by
  unfold impl_within.f
  by_cases h : a ≥ b
  · rw [if_pos h]; simp [show b ≤ a from h]
  · rw [if_neg h]; simp [show ¬ b ≤ a from h]

/-! ### l01In -/
theorem l01In_is (a b c : Int) : spec_l01In.f a b c = some (decide (b ≤ a ∧ a ≤ c)) := by
  unfold spec_l01In.f
  by_cases h : a ≥ b
  · rw [if_pos h]; simp [show b ≤ a from h]
  · rw [if_neg h]; simp [show ¬ b ≤ a from h]

/-! ### setByte -/
/-- A letter a-z or a figure. -/
def sb (c : Int) : Bool := decide ((97 ≤ c ∧ c ≤ 122) ∨ (48 ≤ c ∧ c ≤ 57))
theorem l05Byte_is (c : Int) : spec_l05Byte.f c = some (sb c) := by
  unfold spec_l05Byte.f sb
  by_cases h : c ≥ 97
  · rw [if_pos h]
    by_cases h2 : c ≤ 122
    · rw [if_pos h2, decide_eq_true (Or.inl ⟨h, h2⟩)]
    · rw [if_neg h2, if_pos (show c ≥ 48 by omega)]
      congr 1
      exact decide_eq_decide.2 (by omega)
  · rw [if_neg h]
    by_cases h2 : c ≥ 48
    · rw [if_pos h2]
      congr 1
      exact decide_eq_decide.2 (by omega)
    · rw [if_neg h2, decide_eq_false (by omega)]
theorem isSmall_b (c : Int) (h0 : 0 ≤ c) (h1 : c ≤ 255) : impl_isSmall.f c = some (decide (97 ≤ c ∧ c ≤ 122)) := by
  unfold impl_isSmall.f
  rw [w64 (by omega) (by omega), within_is]; rfl
theorem isFigure_b (c : Int) (h0 : 0 ≤ c) (h1 : c ≤ 255) : impl_isFigure.f c = some (decide (48 ≤ c ∧ c ≤ 57)) := by
  unfold impl_isFigure.f
  rw [w64 (by omega) (by omega), within_is]; rfl
theorem isSetByte_b (c : Int) (h0 : 0 ≤ c) (h1 : c ≤ 255) : impl_isSetByte.f c = some (sb c) := by
  unfold impl_isSetByte.f
  rw [isSmall_b c h0 h1, Option.bind_some]
  by_cases h : 97 ≤ c ∧ c ≤ 122
  · rw [if_pos (decide_eq_true h)]
    unfold sb
    rw [decide_eq_true (Or.inl h)]
  · rw [if_neg (by simpa using h), isFigure_b c h0 h1, Option.bind_some]
    unfold sb
    congr 1
    exact decide_eq_decide.2 (by omega)

/-! ### setRows -/
theorem str_append (a b : List Int) : strOfNums (a ++ b) = strOfNums a ++ strOfNums b := by
  have h : (strOfNums (a ++ b)).data.toList = (strOfNums a ++ strOfNums b).data.toList := by simp [strOfNums]
  revert h
  generalize strOfNums (a ++ b) = x
  generalize strOfNums a ++ strOfNums b = y
  intro h
  cases x; cases y
  simp only [ByteArray.mk.injEq]
  exact Array.toList_inj.1 h
/-- The rows of a set, first and last, from a place on; none where it is no set. -/
def rws (s : ByteArray) : Nat → Nat → Option (List (Int × Int))
  | 0, _ => none
  | f + 1, i => if i < s.size then
      (if sb (bt s (i : Int)) = true then
        (if i + 2 < s.size ∧ bt s ((i + 1 : Nat) : Int) = 45 then
          (if sb (bt s ((i + 2 : Nat) : Int)) = true ∧ bt s (i : Int) ≤ bt s ((i + 2 : Nat) : Int) ∧ (57 < bt s ((i + 2 : Nat) : Int) ↔ 57 < bt s (i : Int))
            then (rws s f (i + 3)).map ((bt s (i : Int), bt s ((i + 2 : Nat) : Int)) :: ·) else none)
        else (rws s f (i + 1)).map ((bt s (i : Int), bt s (i : Int)) :: ·))
      else none)
    else some []
def encR (rs : List (Int × Int)) : List Int := rs.flatMap fun p => [p.1, p.2]
theorem encR_cons (p : Int × Int) (rs : List (Int × Int)) : encR (p :: rs) = [p.1, p.2] ++ encR rs := by simp [encR]
/-- The numbers from a to b. -/
def seg (a b : Int) : List Int := (List.range (b + 1 - a).toNat).map fun (j : Nat) => a + (j : Int)
theorem seg_nil (a b : Int) (h : b < a) : seg a b = [] := by
  unfold seg
  rw [show (b + 1 - a).toNat = 0 from by omega]; rfl
theorem seg_cons (a b : Int) (h : a ≤ b) : seg a b = a :: seg (a + 1) b := by
  unfold seg
  rw [show (b + 1 - a).toNat = (b + 1 - (a + 1)).toNat + 1 from by omega, List.range_succ_eq_map, List.map_cons, List.map_map]
  congr 1
  · simp
  · refine List.map_congr_left fun j hj => ?_
    simp only [Function.comp]
    omega
theorem mem_seg (a b x : Int) : x ∈ seg a b ↔ a ≤ x ∧ x ≤ b := by
  unfold seg
  rw [List.mem_map]
  constructor
  · rintro ⟨j, hj, rfl⟩
    rw [List.mem_range] at hj
    omega
  · intro h
    exact ⟨(x - a).toNat, by rw [List.mem_range]; omega, by omega⟩
theorem seg_length (a b : Int) : (seg a b).length = (b + 1 - a).toNat := by simp [seg]
def expR (rs : List (Int × Int)) : List Int := rs.flatMap fun p => seg p.1 p.2
theorem expR_cons (p : Int × Int) (rs : List (Int × Int)) : expR (p :: rs) = seg p.1 p.2 ++ expR rs := by simp [expR]
theorem l05Rows_l0 (s : ByteArray) (hs : s.size ≤ 1048576) (d : Nat) : ∀ (k i : Nat) (acc : List Int), s.size - i ≤ d → 2 * d + 1 ≤ k → i ≤ s.size → acc.length ≤ 2 * i →
    spec_l05Rows.l0 k s (strOfNums acc) (i : Int) = match rws s (d + 1) i with
      | none => some ((⟨#[]⟩ : ByteArray), false)
      | some rs => some (strOfNums (acc ++ encR rs), decide (1 ≤ (s.size : Int) ∧ (s.size : Int) ≤ 12)) := by
  induction d with
  | zero =>
    intro k i acc hd hk hi ha
    obtain ⟨k, rfl⟩ : ∃ k', k = k' + 1 := ⟨k - 1, by omega⟩
    rw [spec_l05Rows.l0, if_neg (by omega), rws, if_neg (by omega), l01In_is]
    simp [encR]
  | succ d ih =>
    intro k i acc hd hk hi ha
    obtain ⟨k, rfl⟩ : ∃ k', k = k' + 2 := ⟨k - 2, by omega⟩
    by_cases h : i < s.size
    · have hr := bt_range s (i : Int)
      rw [spec_l05Rows.l0, if_pos (by omega), if_pos (by omega), l05Byte_is, Option.bind_some, rws, if_pos h]
      by_cases hb : sb (bt s (i : Int)) = true
      · rw [if_pos hb, if_pos hb]
        have e2 : wrap64 ((i : Int) + 2) = ((i + 2 : Nat) : Int) := by rw [w64 (by omega) (by omega)]; omega
        have e1 : wrap64 ((i : Int) + 1) = ((i + 1 : Nat) : Int) := by rw [w64 (by omega) (by omega)]; omega
        have e3 : wrap64 ((i : Int) + 3) = ((i + 3 : Nat) : Int) := by rw [w64 (by omega) (by omega)]; omega
        have hj : ∀ x : Bool, x = decide (i + 2 < s.size ∧ bt s ((i + 1 : Nat) : Int) = 45) → spec_l05Rows.j1 (k + 1) s (strOfNums acc) (i : Int) (bt s (i : Int)) ((i + 1 : Nat) : Int) x =
            match (if i + 2 < s.size ∧ bt s ((i + 1 : Nat) : Int) = 45 then
              (if sb (bt s ((i + 2 : Nat) : Int)) = true ∧ bt s (i : Int) ≤ bt s ((i + 2 : Nat) : Int) ∧ (57 < bt s ((i + 2 : Nat) : Int) ↔ 57 < bt s (i : Int))
                then (rws s (d + 1) (i + 3)).map ((bt s (i : Int), bt s ((i + 2 : Nat) : Int)) :: ·) else none)
              else (rws s (d + 1) (i + 1)).map ((bt s (i : Int), bt s (i : Int)) :: ·)) with
            | none => some ((⟨#[]⟩ : ByteArray), false)
            | some rs => some (strOfNums (acc ++ encR rs), decide (1 ≤ (s.size : Int) ∧ (s.size : Int) ≤ 12)) := by
          rintro x rfl
          rw [spec_l05Rows.j1]
          by_cases hm : i + 2 < s.size ∧ bt s ((i + 1 : Nat) : Int) = 45
          · rw [if_pos (decide_eq_true hm), if_pos hm, e2, if_pos (by omega), if_pos (by omega), l05Byte_is, Option.bind_some]
            by_cases hb2 : sb (bt s ((i + 2 : Nat) : Int)) = true
            · rw [if_pos hb2, if_pos (by omega), if_pos (by omega)]
              by_cases hlt : bt s ((i + 2 : Nat) : Int) < bt s (i : Int)
              · rw [if_pos hlt, if_neg (by omega)]
              · rw [if_neg hlt]
                by_cases hk57 : (57 < bt s ((i + 2 : Nat) : Int) ↔ 57 < bt s (i : Int))
                · have hne : (decide (bt s ((i + 2 : Nat) : Int) > 57) != decide (bt s (i : Int) > 57)) = false := by
                    have : decide (bt s ((i + 2 : Nat) : Int) > 57) = decide (bt s (i : Int) > 57) := decide_eq_decide.2 hk57
                    rw [this]; simp
                  rw [hne, if_neg (by simp), if_pos ⟨hb2, by omega, hk57⟩, Option.bind_some, if_pos (by rw [str_size, str_size]; simp only [List.length_cons, List.length_nil]; omega), ← str_append, e3,
                    ih k (i + 3) _ (by omega) (by omega) (by omega) (by simp only [List.length_append, List.length_cons, List.length_nil]; omega)]
                  cases rws s (d + 1) (i + 3) with
                  | none => rfl
                  | some rs =>
                    simp only [Option.map_some, encR_cons, List.append_assoc]
                · have hne : (decide (bt s ((i + 2 : Nat) : Int) > 57) != decide (bt s (i : Int) > 57)) = true := by
                    rw [bne_iff_ne]
                    intro e
                    exact hk57 (decide_eq_decide.1 e)
                  rw [hne, if_pos rfl, if_neg (fun h => hk57 h.2.2)]
            · rw [if_neg hb2, if_neg (fun h => hb2 h.1)]
          · rw [if_neg (by simpa using hm), if_neg hm, if_pos (by omega), if_pos (by omega), Option.bind_some, if_pos (by rw [str_size, str_size]; simp only [List.length_cons, List.length_nil]; omega), ← str_append,
              ih k (i + 1) _ (by omega) (by omega) (by omega) (by simp only [List.length_append, List.length_cons, List.length_nil]; omega)]
            cases rws s (d + 1) (i + 1) with
            | none => rfl
            | some rs => simp only [Option.map_some, encR_cons, List.append_assoc]
        rw [e2, e1]
        by_cases h2 : i + 2 < s.size
        · rw [if_pos (by omega), if_pos (by omega), if_pos (by omega)]
          exact hj _ (by simp only [h2, true_and]; rfl)
        · rw [if_neg (by omega)]
          exact hj _ (by simp [h2])
      · rw [if_neg hb, if_neg hb]
    · rw [spec_l05Rows.l0, if_neg (by omega), rws, if_neg (by omega), l01In_is]
      simp [encR]
/-- The rows of a whole set, if it is one but for its length. -/
def rowsOf (s : ByteArray) : Option (List (Int × Int)) := rws s (s.size + 1) 0
def lenOk (s : ByteArray) : Bool := decide (1 ≤ (s.size : Int) ∧ (s.size : Int) ≤ 12)
theorem l05Rows_is (s : ByteArray) (hs : s.size ≤ 1048576) (k : Nat) (hk : 2 * s.size + 1 ≤ k) : spec_l05Rows.f k s = match rowsOf s with
      | none => some ((⟨#[]⟩ : ByteArray), false)
      | some rs => some (strOfNums (encR rs), lenOk s) := by
  have h := l05Rows_l0 s hs s.size k 0 [] (by omega) hk (by omega) (by simp)
  simp only [List.nil_append] at h
  exact h

/-! ### readSet -/
theorem w64_1 (i : Nat) (h : i ≤ 1000000000) : wrap64 ((i : Int) + 1) = ((i + 1 : Nat) : Int) := by rw [w64 (by omega) (by omega)]; omega
theorem w64_2 (i : Nat) (h : i ≤ 1000000000) : wrap64 ((i : Int) + 2) = ((i + 2 : Nat) : Int) := by rw [w64 (by omega) (by omega)]; omega
theorem readSet_l1 (s : ByteArray) (i last : Int) (hl0 : 0 ≤ last) (h255 : last ≤ 255) (m : Nat) : ∀ (k : Nat) (acc : List Int) (x : Int), (last + 1 - x).toNat = m → 0 ≤ x → acc.length + m ≤ 1000000000 →
    impl_readSet.l1 (k + m + 1) s acc i last x = impl_readSet.l0 k s (acc ++ seg x last) i := by
  induction m with
  | zero =>
    intro k acc x hm hx ha
    rw [impl_readSet.l1, w64 (n := last) (by omega) (by omega), if_neg (by omega), seg_nil x last (by omega), List.append_nil]
  | succ m ih =>
    intro k acc x hm hx ha
    have e : impl_readSet.l1 (k + (m + 1) + 1) s acc i last x = impl_readSet.l1 (k + m + 1) s (acc ++ [x]) i last (x + 1) := by
      rw [impl_readSet.l1, w64 (n := last) (by omega) (by omega), if_pos (by omega), if_pos (by omega), Int.emod_eq_of_lt hx (by omega), w64 (by omega) (by omega)]
      rfl
    rw [e, ih k _ (x + 1) (by omega) (by omega) (by simp only [List.length_append, List.length_cons, List.length_nil]; omega), seg_cons x last (by omega), List.append_assoc]
    rfl
theorem sb_kind {a b : Int} (ha : sb a = true) (hb : sb b = true) : (decide (97 ≤ a ∧ a ≤ 122) != decide (97 ≤ b ∧ b ≤ 122)) = !decide (57 < b ↔ 57 < a) := by
  unfold sb at ha hb
  have ha := of_decide_eq_true ha
  have hb := of_decide_eq_true hb
  by_cases h1 : 97 ≤ a ∧ a ≤ 122 <;> by_cases h2 : 97 ≤ b ∧ b ≤ 122
  · rw [decide_eq_true h1, decide_eq_true h2, decide_eq_true (show (57 < b ↔ 57 < a) by omega)]; rfl
  · rw [decide_eq_true h1, decide_eq_false h2, decide_eq_false (show ¬ (57 < b ↔ 57 < a) by omega)]; rfl
  · rw [decide_eq_false h1, decide_eq_true h2, decide_eq_false (show ¬ (57 < b ↔ 57 < a) by omega)]; rfl
  · rw [decide_eq_false h1, decide_eq_false h2, decide_eq_true (show (57 < b ↔ 57 < a) by omega)]; rfl
/-- What a row of the program's gives: its bytes are told, and the next row is read. -/
theorem readSet_j2 (s : ByteArray) (k : Nat) (acc : List Int) (i first last : Int) (hf0 : 0 ≤ first) (hf : first ≤ 255) (hl0 : 0 ≤ last) (hl : last ≤ 255) (ha : acc.length ≤ 900000000) :
    impl_readSet.j2 (k + 30) s acc i first last = if sb first = true ∧ sb last = true ∧ first ≤ last ∧ (57 < last ↔ 57 < first) then impl_readSet.l0 (k + 27 - (last + 1 - first).toNat) s (acc ++ seg first last) i else some (([] : List Int), false) := by
  have hj3 : ∀ x : Bool, impl_readSet.j3 (k + 29) s acc i first last x = if x = true then some (([] : List Int), false) else impl_readSet.l1 (k + 28) s acc i last first := fun x => by
    rw [impl_readSet.j3, w64 (n := first) (by omega) (by omega)]
  rw [impl_readSet.j2, isSetByte_b first hf0 hf, Option.bind_some]
  by_cases h1 : sb first = true
  · rw [if_pos h1, isSetByte_b last hl0 hl, Option.bind_some]
    by_cases h2 : sb last = true
    · rw [if_pos h2, isSmall_b first hf0 hf, isSmall_b last hl0 hl, Option.bind_some, Option.bind_some, sb_kind h1 h2, hj3, hj3]
      by_cases h3 : (57 < last ↔ 57 < first)
      · rw [decide_eq_true h3, if_neg (by simp)]
        by_cases h4 : last < first
        · rw [if_pos (decide_eq_true h4), if_neg (fun h => by omega)]
        · rw [if_neg (by simpa using h4), if_pos ⟨h1, h2, by omega, h3⟩]
          have hm : (last + 1 - first).toNat ≤ 26 := by
            unfold sb at h1 h2
            have h1 := of_decide_eq_true h1
            have h2 := of_decide_eq_true h2
            omega
          have e := readSet_l1 s i last hl0 hl (last + 1 - first).toNat (k + 27 - (last + 1 - first).toNat) acc first rfl hf0 (by omega)
          rw [show k + 27 - (last + 1 - first).toNat + (last + 1 - first).toNat + 1 = k + 28 from by omega] at e
          exact e
      · rw [decide_eq_false h3, if_pos (by simp), if_pos rfl, if_neg (fun h => h3 h.2.2.2)]
    · rw [if_neg h2, hj3, if_pos rfl, if_neg (fun h => h2 h.2.1)]
  · rw [if_neg h1, hj3, if_pos rfl, if_neg (fun h => h1 h.1)]
theorem readSet_l0 (s : ByteArray) (hs : s.size ≤ 1048576) (d : Nat) : ∀ (k i : Nat) (acc : List Int), s.size - i ≤ d → 40 * d + 40 ≤ k → i ≤ s.size → acc.length ≤ 26 * i →
    impl_readSet.l0 k s acc (i : Int) = match rws s (d + 1) i with
      | none => some (([] : List Int), false)
      | some rs => some (Srt.dd (Srt.msort (acc ++ expR rs)), lenOk s) := by
  induction d with
  | zero =>
    intro k i acc hd hk hi ha
    obtain ⟨k, rfl⟩ : ∃ k', k = k' + 1 := ⟨k - 1, by omega⟩
    rw [impl_readSet.l0, if_neg (by omega), rws, if_neg (by omega), slices_Sort_byte_byte.f, if_pos (by omega), Option.bind_some, slices_Compact_byte_byte.f, Srt.msort_length, if_pos (by omega), Option.bind_some, within_is]
    simp [expR, lenOk]
  | succ d ih =>
    intro k i acc hd hk hi ha
    obtain ⟨k, rfl⟩ : ∃ k', k = k' + 32 := ⟨k - 32, by omega⟩
    by_cases h : i < s.size
    · have hr := bt_range s (i : Int)
      have hr1 := bt_range s ((i + 2 : Nat) : Int)
      rw [impl_readSet.l0, if_pos (by omega), if_pos (by omega), w64_1 i (by omega), rws, if_pos h]
      have hout : ∀ x : Bool, x = decide (i + 1 < s.size ∧ bt s ((i + 1 : Nat) : Int) = 45) → impl_readSet.j1 (k + 31) s acc ((i + 1 : Nat) : Int) (bt s (i : Int)) (bt s (i : Int)) x =
          match (if sb (bt s (i : Int)) = true then
            (if i + 2 < s.size ∧ bt s ((i + 1 : Nat) : Int) = 45 then
              (if sb (bt s ((i + 2 : Nat) : Int)) = true ∧ bt s (i : Int) ≤ bt s ((i + 2 : Nat) : Int) ∧ (57 < bt s ((i + 2 : Nat) : Int) ↔ 57 < bt s (i : Int))
                then (rws s (d + 1) (i + 3)).map ((bt s (i : Int), bt s ((i + 2 : Nat) : Int)) :: ·) else none)
            else (rws s (d + 1) (i + 1)).map ((bt s (i : Int), bt s (i : Int)) :: ·)) else none) with
            | none => some (([] : List Int), false)
            | some rs => some (Srt.dd (Srt.msort (acc ++ expR rs)), lenOk s) := by
        rintro x rfl
        rw [impl_readSet.j1]
        by_cases hm : i + 1 < s.size ∧ bt s ((i + 1 : Nat) : Int) = 45
        · rw [if_pos (decide_eq_true hm), w64_1 (i + 1) (by omega)]
          by_cases hend : i + 2 = s.size
          · rw [if_pos (by omega), if_neg (show ¬ (i + 2 < s.size ∧ bt s ((i + 1 : Nat) : Int) = 45) by omega)]
            -- behind the byte stands '-' alone: no row begins with it
            obtain ⟨d', rfl⟩ : ∃ d', d = d' + 1 := ⟨d - 1, by omega⟩
            rw [rws, if_pos hm.1, hm.2, if_neg (show ¬ sb 45 = true by decide)]
            by_cases hb : sb (bt s (i : Int)) = true
            · rw [if_pos hb]; rfl
            · rw [if_neg hb]
          · rw [if_neg (by omega), if_pos (by omega), if_pos (by omega), w64_2 (i + 1) (by omega), readSet_j2 s (k + 0) acc _ _ _ hr.1 hr.2 hr1.1 hr1.2 (by omega), if_pos (show i + 2 < s.size ∧ bt s ((i + 1 : Nat) : Int) = 45 from ⟨by omega, hm.2⟩)]
            by_cases hb : sb (bt s (i : Int)) = true
            · rw [if_pos hb]
              by_cases hc : sb (bt s ((i + 2 : Nat) : Int)) = true ∧ bt s (i : Int) ≤ bt s ((i + 2 : Nat) : Int) ∧ (57 < bt s ((i + 2 : Nat) : Int) ↔ 57 < bt s (i : Int))
              · have hsg : (bt s ((i + 2 : Nat) : Int) + 1 - bt s (i : Int)).toNat ≤ 26 := by
                  have h1 := hb
                  have h2 := hc.1
                  unfold sb at h1 h2
                  have h1 := of_decide_eq_true h1
                  have h2 := of_decide_eq_true h2
                  omega
                rw [if_pos hc, if_pos ⟨hb, hc⟩, ih _ (i + 3) _ (by omega) (by omega) (by omega) (by rw [List.length_append, seg_length]; omega)]
                cases rws s (d + 1) (i + 3) with
                | none => rfl
                | some rs => simp only [Option.map_some, expR_cons, List.append_assoc]
              · rw [if_neg hc, if_neg (fun h => hc h.2)]
            · rw [if_neg hb, if_neg (fun h => hb h.1)]
        · rw [if_neg (by simpa using hm), readSet_j2 s (k + 0) acc _ _ _ hr.1 hr.2 hr.1 hr.2 (by omega), if_neg (show ¬ (i + 2 < s.size ∧ bt s ((i + 1 : Nat) : Int) = 45) from fun h => hm ⟨by omega, h.2⟩)]
          by_cases hb : sb (bt s (i : Int)) = true
          · rw [if_pos hb, if_pos ⟨hb, hb, Int.le_refl _, Iff.rfl⟩, ih _ (i + 1) _ (by omega) (by omega) (by omega) (by rw [List.length_append, seg_length]; omega)]
            cases rws s (d + 1) (i + 1) with
            | none => rfl
            | some rs => simp only [Option.map_some, expR_cons, List.append_assoc]
          · rw [if_neg hb, if_neg (fun h => hb h.1)]
      by_cases h2 : i + 1 < s.size
      · rw [if_pos (by omega), if_pos (by omega)]
        exact hout _ (by simp only [h2, true_and]; rfl)
      · rw [if_neg (by omega)]
        exact hout _ (by simp [h2])
    · rw [impl_readSet.l0, if_neg (by omega), rws, if_neg (by omega), slices_Sort_byte_byte.f, if_pos (by omega), Option.bind_some, slices_Compact_byte_byte.f, Srt.msort_length, if_pos (by omega), Option.bind_some, within_is]
      simp [expR, lenOk]
theorem readSet_is (s : ByteArray) (hs : s.size ≤ 1048576) (k : Nat) (hk : 40 * s.size + 40 ≤ k) : impl_readSet.f k s = match rowsOf s with
      | none => some (([] : List Int), false)
      | some rs => some (Srt.dd (Srt.msort (expR rs)), lenOk s) := by
  have h := readSet_l0 s hs s.size k 0 [] (by omega) hk (by omega) (by simp)
  simp only [List.nil_append] at h
  exact h

/-! ### ascend -/
/-! ascending lists, each number once -/
theorem mem_last {α : Type} {l : List α} {y : α} (h : l.getLast? = some y) : y ∈ l := List.mem_of_getLast? h
theorem mem_dd (n : Nat) : ∀ (l : List Int), l.length = n → ∀ x, x ∈ Srt.dd l ↔ x ∈ l := by
  induction n with
  | zero =>
    intro l hl x
    obtain rfl := List.length_eq_zero_iff.1 hl
    rfl
  | succ n ih =>
    intro l hl x
    rcases List.eq_nil_or_concat l with rfl | ⟨m, y, rfl⟩
    · rfl
    · rw [List.concat_eq_append] at hl ⊢
      have hm : m.length = n := by simpa using hl
      rw [Srt.dd_snoc]
      by_cases h : (Srt.dd m).getLast? = some y
      · rw [if_pos h, ih m hm x, List.mem_append, List.mem_singleton]
        constructor
        · exact Or.inl
        · rintro (h2 | rfl)
          · exact h2
          · exact (ih m hm x).1 (mem_last h)
      · rw [if_neg h, List.mem_append, List.mem_append, ih m hm x]
theorem asc_last {L : List Int} (h : L.Pairwise (· < ·)) {z : Int} (hz : L.getLast? = some z) (x : Int) (hx : x ∈ L) : x ≤ z := by
  rcases List.eq_nil_or_concat L with rfl | ⟨m, y, rfl⟩
  · cases hx
  · rw [List.concat_eq_append] at h hz hx
    obtain ⟨_, _, h3⟩ := List.pairwise_append.1 h
    have hy : y = z := by simpa using hz
    subst hy
    rw [List.mem_append, List.mem_singleton] at hx
    rcases hx with hx | rfl
    · exact Int.le_of_lt (h3 x hx y (by simp))
    · exact Int.le_refl _
theorem dd_asc (n : Nat) : ∀ (l : List Int), l.length = n → l.Pairwise (· ≤ ·) → (Srt.dd l).Pairwise (· < ·) := by
  induction n with
  | zero =>
    intro l hl _
    obtain rfl := List.length_eq_zero_iff.1 hl
    exact List.Pairwise.nil
  | succ n ih =>
    intro l hl hp
    rcases List.eq_nil_or_concat l with rfl | ⟨m, y, rfl⟩
    · exact List.Pairwise.nil
    · rw [List.concat_eq_append] at hl hp ⊢
      have hm : m.length = n := by simpa using hl
      obtain ⟨h1, _, h3⟩ := List.pairwise_append.1 hp
      have hi := ih m hm h1
      rw [Srt.dd_snoc]
      by_cases h : (Srt.dd m).getLast? = some y
      · rw [if_pos h]; exact hi
      · rw [if_neg h]
        refine List.pairwise_append.2 ⟨hi, List.pairwise_singleton _ _, fun a ha b hb => ?_⟩
        rw [List.mem_singleton] at hb
        subst hb
        have hle := h3 a ((mem_dd n m hm a).1 ha) b (by simp)
        rcases Int.lt_or_eq_of_le hle with h' | rfl
        · exact h'
        · exfalso
          cases hz : (Srt.dd m).getLast? with
          | none => rw [List.getLast?_eq_none_iff] at hz; rw [hz] at ha; cases ha
          | some z =>
            have z1 := asc_last hi hz a ha
            have z2 := h3 z ((mem_dd n m hm z).1 (mem_last hz)) a (by simp)
            exact h (by rw [hz, Int.le_antisymm z2 z1])
theorem msort_asc (l : List Int) : (Srt.msort l).Pairwise (· ≤ ·) := by
  have h := List.pairwise_mergeSort (le := fun (x y : Int) => decide (x ≤ y)) (fun a b c h1 h2 => by simp only [decide_eq_true_eq] at *; omega) (fun a b => by simp only [Bool.or_eq_true, decide_eq_true_eq]; omega) l
  exact h.imp (fun h => by simpa using h)
theorem mem_msort (l : List Int) (x : Int) : x ∈ Srt.msort l ↔ x ∈ l := List.mem_mergeSort
theorem mem_ddms (l : List Int) (x : Int) : x ∈ Srt.dd (Srt.msort l) ↔ x ∈ l := (mem_dd _ _ rfl x).trans (mem_msort l x)
theorem ddms_asc (l : List Int) : (Srt.dd (Srt.msort l)).Pairwise (· < ·) := dd_asc _ _ rfl (msort_asc l)
theorem asc_unique : ∀ (l1 l2 : List Int), l1.Pairwise (· < ·) → l2.Pairwise (· < ·) → (∀ x, x ∈ l1 ↔ x ∈ l2) → l1 = l2
  | [], [], _, _, _ => rfl
  | [], b :: l2, _, _, h => by have := (h b).2 (by simp); cases this
  | a :: l1, [], _, _, h => by have := (h a).1 (by simp); cases this
  | a :: l1, b :: l2, h1, h2, h => by
    obtain ⟨p1, q1⟩ := List.pairwise_cons.1 h1
    obtain ⟨p2, q2⟩ := List.pairwise_cons.1 h2
    have hab : a = b := by
      have x1 := (h a).1 (by simp)
      have x2 := (h b).2 (by simp)
      rw [List.mem_cons] at x1 x2
      rcases x1 with rfl | x1
      · rfl
      · rcases x2 with rfl | x2
        · rfl
        · have := p2 a x1
          have := p1 b x2
          omega
    subst hab
    congr 1
    refine asc_unique l1 l2 q1 q2 fun x => ?_
    constructor
    · intro hx
      have hlt := p1 x hx
      have := (h x).1 (List.mem_cons_of_mem _ hx)
      rw [List.mem_cons] at this
      rcases this with rfl | this
      · omega
      · exact this
    · intro hx
      have hlt := p2 x hx
      have := (h x).2 (List.mem_cons_of_mem _ hx)
      rw [List.mem_cons] at this
      rcases this with rfl | this
      · omega
      · exact this

/-! ### inSet -/
theorem w64_n1 (i : Nat) (h : i ≤ 1000000000) : wrap64 ((i : Int) + 1) = ((i + 1 : Nat) : Int) := by rw [w64 (by omega) (by omega)]; omega
theorem w64_n2 (i : Nat) (h : i ≤ 1000000000) : wrap64 ((i : Int) + 2) = ((i + 2 : Nat) : Int) := by rw [w64 (by omega) (by omega)]; omega
/-- A byte is in a set. -/
def inR (s : ByteArray) (b : Int) : Bool := match rowsOf s with
  | none => false
  | some rs => lenOk s && rs.any fun p => decide (p.1 ≤ b ∧ b ≤ p.2)
/-- All bytes of a set, ascending. -/
def allL (s : ByteArray) : List Int := match rowsOf s with
  | none => []
  | some rs => if lenOk s = true then Srt.dd (Srt.msort (expR rs)) else []
theorem rws_good (s : ByteArray) (f : Nat) : ∀ (i : Nat) (rs : List (Int × Int)), i ≤ s.size → rws s f i = some rs → rs.length ≤ s.size - i ∧ ∀ p ∈ rs, sb p.1 = true ∧ sb p.2 = true ∧ p.1 ≤ p.2 ∧ (57 < p.2 ↔ 57 < p.1) := by
  induction f with
  | zero => intro i rs hi h; cases h
  | succ f ih =>
    intro i rs hi h
    rw [rws] at h
    by_cases hs : i < s.size
    · rw [if_pos hs] at h
      by_cases hb : sb (bt s (i : Int)) = true
      · rw [if_pos hb] at h
        by_cases hm : i + 2 < s.size ∧ bt s ((i + 1 : Nat) : Int) = 45
        · rw [if_pos hm] at h
          by_cases hc : sb (bt s ((i + 2 : Nat) : Int)) = true ∧ bt s (i : Int) ≤ bt s ((i + 2 : Nat) : Int) ∧ (57 < bt s ((i + 2 : Nat) : Int) ↔ 57 < bt s (i : Int))
          · rw [if_pos hc] at h
            obtain ⟨rs', h', rfl⟩ := Option.map_eq_some_iff.1 h
            obtain ⟨h1, h2⟩ := ih (i + 3) rs' (by omega) h'
            refine ⟨by simp only [List.length_cons]; omega, fun p hp => ?_⟩
            rw [List.mem_cons] at hp
            rcases hp with rfl | hp
            · exact ⟨hb, hc.1, hc.2.1, hc.2.2⟩
            · exact h2 p hp
          · rw [if_neg hc] at h; cases h
        · rw [if_neg hm] at h
          obtain ⟨rs', h', rfl⟩ := Option.map_eq_some_iff.1 h
          obtain ⟨h1, h2⟩ := ih (i + 1) rs' (by omega) h'
          refine ⟨by simp only [List.length_cons]; omega, fun p hp => ?_⟩
          rw [List.mem_cons] at hp
          rcases hp with rfl | hp
          · exact ⟨hb, hb, Int.le_refl _, Iff.rfl⟩
          · exact h2 p hp
      · rw [if_neg hb] at h; cases h
    · rw [if_neg hs] at h
      obtain rfl := Option.some.inj h
      exact ⟨by simp, by simp⟩
theorem sb_range {c : Int} (h : sb c = true) : 0 ≤ c ∧ c ≤ 255 := by
  unfold sb at h
  have := of_decide_eq_true h
  omega
theorem rowsOf_good {s : ByteArray} {rs : List (Int × Int)} (h : rowsOf s = some rs) : rs.length ≤ s.size ∧ ∀ p ∈ rs, sb p.1 = true ∧ sb p.2 = true ∧ p.1 ≤ p.2 ∧ (57 < p.2 ↔ 57 < p.1) := by
  have := rws_good s _ 0 rs (Nat.zero_le _) h
  simpa using this
theorem mem_expR (rs : List (Int × Int)) (b : Int) : b ∈ expR rs ↔ (rs.any fun p => decide (p.1 ≤ b ∧ b ≤ p.2)) = true := by
  unfold expR
  rw [List.mem_flatMap, List.any_eq_true]
  constructor
  · rintro ⟨p, hp, h⟩
    exact ⟨p, hp, decide_eq_true ((mem_seg _ _ _).1 h)⟩
  · rintro ⟨p, hp, h⟩
    exact ⟨p, hp, (mem_seg _ _ _).2 (of_decide_eq_true h)⟩
theorem mem_allL (s : ByteArray) (b : Int) : b ∈ allL s ↔ inR s b = true := by
  unfold allL inR
  cases rowsOf s with
  | none => simp
  | some rs =>
    show b ∈ (if lenOk s = true then Srt.dd (Srt.msort (expR rs)) else []) ↔ (lenOk s && rs.any fun p => decide (p.1 ≤ b ∧ b ≤ p.2)) = true
    by_cases h : lenOk s = true
    · rw [if_pos h, mem_ddms, mem_expR, h, Bool.true_and]
    · rw [if_neg h]
      rw [Bool.not_eq_true] at h
      rw [h]; simp
theorem allL_asc (s : ByteArray) : (allL s).Pairwise (· < ·) := by
  unfold allL
  cases rowsOf s with
  | none => exact List.Pairwise.nil
  | some rs =>
    show (if lenOk s = true then Srt.dd (Srt.msort (expR rs)) else []).Pairwise (· < ·)
    by_cases h : lenOk s = true
    · rw [if_pos h]; exact ddms_asc _
    · rw [if_neg h]; exact List.Pairwise.nil
theorem inR_sb {s : ByteArray} {b : Int} (h : inR s b = true) : sb b = true := by
  unfold inR at h
  cases hr : rowsOf s with
  | none => rw [hr] at h; cases h
  | some rs =>
    rw [hr] at h
    have h2 : (rs.any fun p => decide (p.1 ≤ b ∧ b ≤ p.2)) = true := by
      have h' : (lenOk s && rs.any fun p => decide (p.1 ≤ b ∧ b ≤ p.2)) = true := h
      rw [Bool.and_eq_true] at h'
      exact h'.2
    -- a row is of letters or of figures alone
    obtain ⟨p, hp, hpb⟩ := List.any_eq_true.1 h2
    have hpb := of_decide_eq_true hpb
    obtain ⟨g1, g2, g3, g4⟩ := (rowsOf_good hr).2 p hp
    unfold sb at g1 g2 ⊢
    have g1 := of_decide_eq_true g1
    have g2 := of_decide_eq_true g2
    exact decide_eq_true (by omega)
theorem encR_length (rs : List (Int × Int)) : (encR rs).length = 2 * rs.length := by
  induction rs with
  | nil => rfl
  | cons p rs ih => rw [encR_cons, List.length_append, ih]; simp only [List.length_cons, List.length_nil]; omega
theorem encR_range (rs : List (Int × Int)) (h : ∀ p ∈ rs, sb p.1 = true ∧ sb p.2 = true ∧ p.1 ≤ p.2 ∧ (57 < p.2 ↔ 57 < p.1)) : ∀ x ∈ encR rs, 0 ≤ x ∧ x ≤ 255 := by
  intro x hx
  unfold encR at hx
  obtain ⟨p, hp, hx⟩ := List.mem_flatMap.1 hx
  have hx : x = p.1 ∨ x = p.2 := by simpa using hx
  rcases hx with rfl | rfl
  · exact sb_range (h p hp).1
  · exact sb_range (h p hp).2.1
theorem specInSet_l0 (b : Int) (x : List Int) (hx : ∀ y ∈ x, 0 ≤ y ∧ y ≤ 255) (hl : x.length ≤ 3000000) (rs : List (Int × Int)) : ∀ (k : Nat) (pre : List Int), x = pre ++ encR rs → 2 * rs.length + 2 ≤ k →
    spec_InSet.l0 k b (strOfNums x) true (pre.length : Int) = some (rs.any fun p => decide (p.1 ≤ b ∧ b ≤ p.2)) := by
  induction rs with
  | nil =>
    intro k pre he hk
    obtain ⟨k, rfl⟩ : ∃ k', k = k' + 2 := ⟨k - 2, by omega⟩
    have hxl : x.length = pre.length := by rw [he]; simp [encR]
    rw [spec_InSet.l0, str_size, w64 (by omega) (by omega), if_neg (by omega), spec_InSet.j1, if_neg (by simp)]
    rfl
  | cons p rs ih =>
    intro k pre he hk
    simp only [List.length_cons] at hk
    obtain ⟨k, rfl⟩ : ∃ k', k = k' + 2 := ⟨k - 2, by omega⟩
    have hxl : x.length = pre.length + 2 + 2 * rs.length := by rw [he, List.length_append, encR_cons, List.length_append, encR_length]; simp only [List.length_cons, List.length_nil]; omega
    have b1 : bt (strOfNums x) (pre.length : Int) = p.1 := by
      rw [bt_str hx _ (by omega)]
      unfold rd
      rw [Int.toNat_natCast, he, encR_cons, List.getD_eq_getElem?_getD, List.getElem?_append_right (Nat.le_refl _), Nat.sub_self]
      rfl
    have b2 : bt (strOfNums x) ((pre.length + 1 : Nat) : Int) = p.2 := by
      rw [bt_str hx _ (by omega)]
      unfold rd
      rw [Int.toNat_natCast, he, encR_cons, List.getD_eq_getElem?_getD, List.getElem?_append_right (by omega), show pre.length + 1 - pre.length = 1 from by omega]
      rfl
    have hn := ih k (pre ++ [p.1, p.2]) (by rw [he, encR_cons, List.append_assoc]) (by omega)
    simp only [List.length_append, List.length_cons, List.length_nil] at hn
    rw [spec_InSet.l0, str_size, w64_n1 pre.length (by omega), if_pos (by omega), spec_InSet.j1, if_pos rfl, if_pos (by omega), str_size, if_pos (by omega), b1, w64_n1 pre.length (by omega), b2, w64_n2 pre.length (by omega), List.any_cons]
    by_cases h1 : b ≥ p.1
    · rw [if_pos h1, if_pos (by omega), if_pos (by omega)]
      by_cases h2 : b ≤ p.2
      · rw [if_pos h2, decide_eq_true (show p.1 ≤ b ∧ b ≤ p.2 from ⟨h1, h2⟩)]; rfl
      · rw [if_neg h2, decide_eq_false (show ¬ (p.1 ≤ b ∧ b ≤ p.2) from fun h => h2 h.2)]
        exact hn
    · rw [if_neg h1, decide_eq_false (show ¬ (p.1 ≤ b ∧ b ≤ p.2) from fun h => h1 h.1)]
      exact hn
theorem lenOk_le {s : ByteArray} (h : lenOk s = true) : s.size ≤ 12 := by
  unfold lenOk at h
  have := of_decide_eq_true h
  omega
theorem specInSet_is (s : ByteArray) (hs : s.size ≤ 1048576) (b : Int) (k : Nat) (hk : 2 * s.size + 30 ≤ k) : spec_InSet.f k s b = some (inR s b) := by
  unfold spec_InSet.f inR
  rw [l05Rows_is s hs k (by omega)]
  have hoff : ∀ x : ByteArray, spec_InSet.l0 k b x false 0 = some false := fun x => by
    obtain ⟨k, rfl⟩ : ∃ k', k = k' + 2 := ⟨k - 2, by omega⟩
    rw [spec_InSet.l0]
    split <;> rw [spec_InSet.j1, if_neg (by simp)]
  cases hr : rowsOf s with
  | none => exact hoff _
  | some rs =>
    show spec_InSet.l0 k b (strOfNums (encR rs)) (lenOk s) 0 = some (lenOk s && _)
    cases hl : lenOk s with
    | false => rw [hoff, Bool.false_and]
    | true =>
      have hg := rowsOf_good hr
      have hle := lenOk_le hl
      have := specInSet_l0 b (encR rs) (encR_range rs hg.2) (by rw [encR_length]; omega) rs k [] rfl (by omega)
      rw [Bool.true_and]
      exact this
theorem implSetBytes_is (s : ByteArray) (hs : s.size ≤ 1048576) (k : Nat) (hk : 40 * s.size + 40 ≤ k) : impl_SetBytes.f k s = some (strOfNums (allL s)) := by
  unfold impl_SetBytes.f allL
  rw [readSet_is s hs k hk]
  cases rowsOf s with
  | none => rfl
  | some rs =>
    show (if lenOk s = true then _ else _) = some (strOfNums (if lenOk s = true then _ else _))
    by_cases h : lenOk s = true
    · rw [if_pos h, if_pos h]
    · rw [if_neg h, if_neg h]; rfl
theorem allL_range (s : ByteArray) : ∀ x ∈ allL s, 0 ≤ x ∧ x ≤ 255 := fun x hx => sb_range (inR_sb ((mem_allL s x).1 hx))

/-! ### indexByte -/
theorem indexByte_ge (u : UInt8) (l : List UInt8) : Go.Lib.indexByte l u ≥ -1 ∧ (Go.Lib.indexByte l u ≥ 0 ↔ u ∈ l) := by
  induction l with
  | nil =>
    show (-1 : Int) ≥ -1 ∧ ((-1 : Int) ≥ 0 ↔ u ∈ [])
    simp
  | cons b l ih =>
    obtain ⟨i1, i2⟩ := ih
    rw [Go.Lib.indexByte, List.mem_cons]
    by_cases h : (b == u) = true
    · rw [if_pos h]
      have : u = b := (eq_of_beq h).symm
      exact ⟨by decide, fun _ => Or.inl this, fun _ => by decide⟩
    · rw [if_neg h]
      have hne : ¬ u = b := fun e => h (by rw [e]; exact beq_self_eq_true b)
      by_cases h2 : (Go.Lib.indexByte l u == -1) = true
      · rw [if_pos h2]
        have h2 := eq_of_beq h2
        refine ⟨by decide, fun h => absurd h (by decide), fun h => ?_⟩
        rcases h with h | h
        · exact absurd h hne
        · have := i2.2 h; omega
      · rw [if_neg h2]
        have h3 : Go.Lib.indexByte l u ≠ -1 := fun e => h2 (by rw [e]; rfl)
        exact ⟨by omega, fun _ => Or.inr (i2.1 (by omega)), fun _ => by omega⟩

/-! ### implInSet -/
theorem str_mem (xs : List Int) (h : ∀ x ∈ xs, 0 ≤ x ∧ x ≤ 255) (b : Int) (h0 : 0 ≤ b) (h1 : b ≤ 255) : b.toNat.toUInt8 ∈ (strOfNums xs).data.toList ↔ b ∈ xs := by
  show b.toNat.toUInt8 ∈ (xs.map fun n => UInt8.ofNat n.toNat).toArray.toList ↔ b ∈ xs
  rw [List.toList_toArray, List.mem_map]
  constructor
  · rintro ⟨x, hx, e⟩
    have hr := h x hx
    have e2 : x.toNat = b.toNat := by
      have := congrArg UInt8.toNat e
      simp only [UInt8.toNat_ofNat'] at this
      have hb : b.toNat.toUInt8.toNat = b.toNat % 256 := rfl
      omega
    have : x = b := by omega
    rw [← this]; exact hx
  · intro hb
    exact ⟨b, hb, rfl⟩
theorem implInSet_is (s : ByteArray) (hs : s.size ≤ 1048576) (b : Int) (h0 : 0 ≤ b) (h1 : b ≤ 255) (k : Nat) (hk : 40 * s.size + 40 ≤ k) : impl_InSet.f k s b = some (inR s b) := by
  unfold impl_InSet.f
  rw [implSetBytes_is s hs k hk, Option.bind_some, strings_IndexByte.f, Option.bind_some]
  congr 1
  rw [Bool.eq_iff_iff, decide_eq_true_iff, (indexByte_ge _ _).2, str_mem _ (allL_range s) b h0 h1, mem_allL]

/-! ### FnExactInSet -/
theorem FnExactInSet : laws_FnExactInSet.Pure := by
  intro s b hs hb
  have hb2 : 0 ≤ b ∧ b ≤ 255 := by
    simp only [Lit.wf] at hb
    rw [Bool.and_eq_true] at hb
    have h1 := of_decide_eq_true hb.1
    have h2 := of_decide_eq_true hb.2
    exact ⟨h1, h2⟩
  refine ⟨40 * s.size + 40, ?_⟩
  unfold laws_FnExactInSet.f
  by_cases h : (s.size : Int) > 1048576
  · rw [if_pos h]
  · rw [if_neg h, specInSet_is s (by omega) b _ (by omega), implInSet_is s (by omega) b hb2.1 hb2.2 _ (by omega), Option.bind_some, Option.bind_some, if_neg (by simp)]

end Go.Proofs.Ytbkncnlehlldeaa.Pure
