/- FnExactPartsOf without Go: at every line the program's PartsOf and the reference's answer the same; what one call gave stays as it was behind another. -/
import Derived.Test.YtnmhggdaccbbfaaDoorMFnExactPartsOfx3
import Derived.Lib.Split
set_option linter.unusedVariables false
set_option linter.unusedSimpArgs false
set_option maxHeartbeats 400000
namespace Go.Proofs.YtnmhggdaccbbfaaDoor.Pure
open Go.RowKit Go.Proofs.YtnmhggdaccbbfaaDoor.MFnExactPartsOf Go.Proofs.YtnmhggdaccbbfaaDoorW.PrintWords Go.Proofs.YtnmhggdaccbbfaaDoorW.PrintLast
/-! ### base -/
theorem w64 {n : Int} (h : -9223372036854775808 ≤ n) (h' : n ≤ 9223372036854775807) : wrap64 n = n := by unfold wrap64; omega
theorem w64_succ {i m : Nat} (h : i < m) (hm : m ≤ 140737488351232) : wrap64 ((i : Int) + 1) = ((i + 1 : Nat) : Int) := by
  rw [w64 (by omega) (by omega)]; omega
theorem w64_bt (s : ByteArray) (i : Int) : wrap64 (bt s i) = bt s i := by
  have := bt_range s i
  exact w64 (by omega) (by omega)
/-- A string's bytes as numbers. -/
def bs (s : ByteArray) : List Int := s.data.toList.map fun b => (b.toNat : Int)
theorem bs_length (s : ByteArray) : (bs s).length = s.size := by simp [bs]
theorem bs_get (s : ByteArray) (i : Nat) (h : i < s.size) : (bs s)[i]? = some (bt s i) := by
  have h2 : i < s.data.toList.length := by simpa using h
  simp only [bs, List.getElem?_map, List.getElem?_eq_getElem h2, Option.map_some]
  unfold bt
  rw [dif_pos (by simpa using h)]
  rfl
theorem bs_drop (s : ByteArray) (i : Nat) (h : i < s.size) : (bs s).drop i = bt s i :: (bs s).drop (i + 1) := by
  have h2 : i < (bs s).length := by rw [bs_length]; exact h
  rw [List.drop_eq_getElem_cons h2]
  congr 1
  have := bs_get s i h
  rw [List.getElem?_eq_getElem h2] at this
  exact Option.some.inj this
theorem bs_drop_nil (s : ByteArray) (i : Nat) (h : s.size ≤ i) : (bs s).drop i = [] := List.drop_eq_nil_of_le (by rw [bs_length]; exact h)
theorem bs_range {s : ByteArray} {c : Int} (h : c ∈ bs s) : 0 ≤ c ∧ c ≤ 255 := by
  simp only [bs, List.mem_map] at h
  obtain ⟨b, _, rfl⟩ := h
  have := b.toNat_lt
  omega
theorem bs_inj {s t : ByteArray} (h : bs s = bs t) : s = t := by
  have hd : s.data.toList = t.data.toList := by
    refine List.map_inj_right (f := fun b : UInt8 => (b.toNat : Int)) (fun a b hab => ?_) |>.1 h
    have hab2 : (a.toNat : Int) = b.toNat := hab
    exact UInt8.toNat_inj.1 (by omega)
  cases s; cases t
  simp only [ByteArray.mk.injEq]
  exact Array.toList_inj.1 hd
theorem bs_str {xs : List Int} (h : ∀ x ∈ xs, 0 ≤ x ∧ x ≤ 255) : bs (strOfNums xs) = xs := by
  unfold bs strOfNums
  simp only [List.map_map]
  conv => rhs; rw [← List.map_id xs]
  refine List.map_congr_left fun x hx => ?_
  have := h x hx
  simp only [Function.comp, id, UInt8.toNat_ofNat']
  omega
theorem str_bs (s : ByteArray) : strOfNums (bs s) = s := bs_inj (bs_str fun _ hx => bs_range hx)
theorem str_size (xs : List Int) : (strOfNums xs).size = xs.length := by
  show ((xs.map fun n => UInt8.ofNat n.toNat).toArray).size = xs.length
  simp
theorem bs_append (s t : ByteArray) : bs (s ++ t) = bs s ++ bs t := by
  simp [bs]
theorem bs_empty : bs (⟨#[]⟩ : ByteArray) = [] := rfl
theorem bt_str {xs : List Int} (h : ∀ x ∈ xs, 0 ≤ x ∧ x ≤ 255) (i : Nat) (hi : i < xs.length) : bt (strOfNums xs) i = rd xs i := by
  have h1 := bs_get (strOfNums xs) i (by rw [str_size]; exact hi)
  rw [bs_str h] at h1
  unfold rd
  rw [List.getD_eq_getElem?_getD, Int.toNat_natCast, h1]
  rfl
theorem bt_bs (s : ByteArray) (i : Int) : bt s i = rd (bs s) i := by
  unfold rd
  rw [List.getD_eq_getElem?_getD]
  by_cases h : i.toNat < s.size
  · have := bs_get s i.toNat h
    rw [this]
    unfold bt
    simp only [Int.toNat_natCast]
    rw [dif_pos h]
    rfl
  · rw [List.getElem?_eq_none (by rw [bs_length]; omega)]
    unfold bt
    rw [dif_neg h]
    rfl
theorem toList_eq {s t : ByteArray} : s.toList = t.toList ↔ s = t := by
  rw [ByteArray.toList_eq, ByteArray.toList_eq]
  constructor
  · intro h; cases s; cases t; simpa [Array.toList_inj] using h
  · rintro rfl; rfl
theorem tdiv_e {n : Int} (h : 0 ≤ n) (m : Int) : Int.tdiv n m = n / m := Int.tdiv_eq_ediv_of_nonneg h
theorem tmod_e {n : Int} (h : 0 ≤ n) (m : Int) : Int.tmod n m = n % m := Int.tmod_eq_emod_of_nonneg h

/-! ### lists -/
theorem drop_get {α : Type} (xs : List α) (i : Nat) (h : i < xs.length) : xs.drop i = xs[i] :: xs.drop (i + 1) := List.drop_eq_getElem_cons h
theorem w64_len {i n : Nat} (h : i < n) (hn : n ≤ 9223372036854775807) : wrap64 ((i : Int) + 1) = ((i + 1 : Nat) : Int) := by
  rw [w64 (by omega) (by omega)]; omega
theorem take_set {α : Type} (acc : List α) (i : Nat) (v : α) (h : i < acc.length) : (acc.set i v).take (i + 1) = acc.take i ++ [v] := by
  rw [List.take_add_one, List.getElem?_set_self h, List.take_set_of_le (Nat.le_refl i)]; rfl

/-! ### mkB -/
def mkB (l : List UInt8) : ByteArray := ⟨l.toArray⟩
theorem data_mk (l : List UInt8) : (mkB l).data.toList = l := by simp [mkB]
theorem ba_ext {x y : ByteArray} (h : x.data.toList = y.data.toList) : x = y := by
  cases x; cases y
  simp only [ByteArray.mk.injEq]
  exact Array.toList_inj.1 h
theorem mk_data (s : ByteArray) : mkB s.data.toList = s := ba_ext (data_mk _)
theorem mk_append (a b : List UInt8) : mkB a ++ mkB b = mkB (a ++ b) := by
  refine ba_ext ?_
  rw [data_mk, ByteArray.data_append, Array.toList_append, data_mk, data_mk]
theorem mk_size (l : List UInt8) : (mkB l).size = l.length := by
  have h : (mkB l).data.toList.length = l.length := by rw [data_mk]
  exact h
theorem mk_inj {a b : List UInt8} (h : mkB a = mkB b) : a = b := by rw [← data_mk a, h, data_mk]
theorem mk_toList (l : List UInt8) : (mkB l).toList = l := by rw [ByteArray.toList_eq]; exact data_mk l

/-! ### within -/
theorem within_is (a b c : Int) : impl_within.f a b c = some (decide (b ≤ a ∧ a ≤ c)) := by
  unfold impl_within.f
  by_cases h : a ≥ b
  · rw [if_pos h]; simp [show b ≤ a from h]
  · rw [if_neg h]; simp [show ¬ b ≤ a from h]

/-! ### parts -/
/-! a line's parts: plain -/
def sp : List UInt8 → List (List UInt8)
  | [] => [[]]
  | b :: l => if b = 32 then [] :: sp l else match sp l with
    | x :: r => (b :: x) :: r
    | [] => [[b]]
def glue (c : List UInt8) : List (List UInt8) → List (List UInt8)
  | x :: r => (c ++ x) :: r
  | [] => [c]
theorem sp_ne (l : List UInt8) : sp l ≠ [] := by
  cases l with
  | nil => simp [sp]
  | cons b l =>
    unfold sp
    split
    · simp
    · split <;> simp
theorem sp_other (b : UInt8) (l : List UInt8) (h : b ≠ 32) : sp (b :: l) = glue [b] (sp l) := by
  rw [sp, if_neg h]
  cases sp l <;> rfl
theorem sp_space (l : List UInt8) : sp (32 :: l) = [] :: sp l := by rw [sp, if_pos rfl]
theorem glue_glue (a b : List UInt8) (L : List (List UInt8)) : glue a (glue b L) = glue (a ++ b) L := by cases L <;> simp [glue]
theorem sp_run (a : List UInt8) (ha : ∀ b ∈ a, b ≠ 32) (l : List UInt8) : sp (a ++ l) = glue a (sp l) := by
  induction a with
  | nil =>
    rw [List.nil_append]
    cases h : sp l with
    | nil => exact absurd h (sp_ne l)
    | cons x r => rfl
  | cons c a ih =>
    rw [List.cons_append, sp_other c _ (ha c (by simp)), ih (fun b hb => ha b (List.mem_cons_of_mem _ hb)), glue_glue]
    rfl
theorem index_space : ∀ l : List UInt8, (Go.Lib.index l [32] = -1 → ∀ b ∈ l, b ≠ 32) ∧ (∀ i : Nat, Go.Lib.index l [32] = (i : Int) → ∃ a r, l = a ++ 32 :: r ∧ a.length = i ∧ ∀ b ∈ a, b ≠ 32) := by
  intro l
  induction l with
  | nil =>
    refine ⟨fun _ b hb => (by cases hb), fun i h => ?_⟩
    have : Go.Lib.index [] [32] = -1 := rfl
    omega
  | cons b l ih =>
    have hix : Go.Lib.index (b :: l) [32] = if (32 : UInt8) == b then 0 else if Go.Lib.index l [32] == -1 then -1 else Go.Lib.index l [32] + 1 := by
      rw [Go.Lib.index]
      simp [List.isPrefixOf]
    have hge := Go.Lib.index_ge l [32]
    by_cases hb : b = 32
    · subst hb
      rw [hix, if_pos (by simp)]
      refine ⟨fun h => by omega, fun i h => ⟨[], l, rfl, by simp only [List.length_nil]; omega, by simp⟩⟩
    · rw [hix, if_neg (by simpa using fun e => hb e.symm)]
      by_cases hm : Go.Lib.index l [32] = -1
      · rw [hm, if_pos (by simp)]
        refine ⟨fun _ c hc => ?_, fun i h => by omega⟩
        rw [List.mem_cons] at hc
        rcases hc with rfl | hc
        · exact hb
        · exact ih.1 hm c hc
      · rw [if_neg (by simpa using hm)]
        refine ⟨fun h => by omega, fun i h => ?_⟩
        obtain ⟨a, r, e1, e2, e3⟩ := ih.2 (i - 1) (by omega)
        refine ⟨b :: a, r, by rw [e1]; rfl, by simp only [List.length_cons]; omega, fun c hc => ?_⟩
        rw [List.mem_cons] at hc
        rcases hc with rfl | hc
        · exact hb
        · exact e3 c hc
theorem splitK_sp (n : Nat) : ∀ l : List UInt8, l.length ≤ n → Go.Lib.splitK [32] 0 (Go.Lib.count l [32]) l = sp l := by
  induction n with
  | zero =>
    intro l hl
    obtain rfl := List.length_eq_zero_iff.1 (Nat.le_zero.1 hl)
    rw [Go.Lib.count_miss (by rfl)]
    rfl
  | succ n ih =>
    intro l hl
    by_cases hm : Go.Lib.index l [32] = -1
    · rw [Go.Lib.count_miss hm, Go.Lib.splitK]
      have := sp_run l ((index_space l).1 hm) []
      rw [List.append_nil] at this
      rw [this]
      simp [sp, glue]
    · have hge := Go.Lib.index_ge l [32]
      obtain ⟨i, hi⟩ : ∃ i : Nat, Go.Lib.index l [32] = i := ⟨(Go.Lib.index l [32]).toNat, by omega⟩
      obtain ⟨a, r, e1, e2, e3⟩ := (index_space l).2 i hi
      have hdrop : l.drop (i + [(32 : UInt8)].length) = r := by
        rw [e1, List.length_singleton, ← e2, show a ++ 32 :: r = (a ++ [32]) ++ r by simp]
        exact List.drop_left' (by simp)
      rw [Go.Lib.count_hit (by simp) hi, Nat.add_comm 1, Go.Lib.splitK, if_neg (by simpa using hm), hi, Int.toNat_natCast, Nat.add_zero, hdrop, ih r (by rw [e1] at hl; simp only [List.length_append, List.length_cons] at hl; omega)]
      rw [e1, sp_run a e3, sp_space, List.take_left' e2]
      simp [glue]
theorem split_is (s : ByteArray) : Go.Lib.splitB (⟨#[32]⟩ : ByteArray) 0 (Go.Lib.countB s (⟨#[32]⟩ : ByteArray)) s = (sp s.data.toList).map mkB := by
  have h := Go.Lib.splitB_data (⟨#[32]⟩ : ByteArray) 0 (Go.Lib.countB s (⟨#[32]⟩ : ByteArray)) s
  rw [show (⟨#[32]⟩ : ByteArray).data.toList = [32] from rfl] at h
  have h2 := splitK_sp s.data.toList.length s.data.toList (Nat.le_refl _)
  have h3 := h.trans h2
  rw [← h3, List.map_map]
  conv => lhs; rw [← List.map_id (Go.Lib.splitB _ _ _ _)]
  refine List.map_congr_left fun x _ => ?_
  exact (mk_data x).symm
def okB (b : UInt8) : Bool := decide (32 ≤ b.toNat ∧ b.toNat ≤ 126)
def ne (x : List UInt8) : Bool := !x.isEmpty
def finP (L : List ByteArray) : List ByteArray × Bool := if L.length > 10 then ([], false) else (L, true)
def partsR (s : ByteArray) : List ByteArray × Bool := if s.size > 600 then ([], false) else if s.data.toList.all okB = true then finP (((sp s.data.toList).filter ne).map mkB) else ([], false)
theorem bt_nat (s : ByteArray) (i : Nat) (h : i < s.data.toList.length) : bt s (i : Int) = ((s.data.toList[i]).toNat : Int) := by
  have h1 := bs_get s i h
  unfold bs at h1
  rw [List.getElem?_map, List.getElem?_eq_getElem h, Option.map_some] at h1
  exact (Option.some.inj h1).symm
theorem okB_iff (s : ByteArray) (i : Nat) (h : i < s.data.toList.length) : okB s.data.toList[i] = decide (32 ≤ bt s (i : Int) ∧ bt s (i : Int) ≤ 126) := by
  rw [bt_nat s i h]
  unfold okB
  rw [decide_eq_decide]
  omega
theorem is32_iff (s : ByteArray) (i : Nat) (h : i < s.data.toList.length) : s.data.toList[i] = 32 ↔ bt s (i : Int) = 32 := by
  rw [bt_nat s i h]
  constructor
  · intro e; rw [e]; rfl
  · intro e
    exact UInt8.toNat_inj.1 (by show _ = 32; omega)
theorem extract_is (s : ByteArray) (a b : Nat) : s.extract a b = mkB ((s.data.toList.drop a).take (b - a)) := by
  refine ba_ext ?_
  rw [data_mk, ByteArray.data_extract, Array.toList_extract, List.extract_eq_take_drop]
theorem w64_p (i : Nat) (h : i ≤ 100000) : wrap64 ((i : Int) + 1) = ((i + 1 : Nat) : Int) := by rw [w64 (by omega) (by omega)]; omega
theorem specParts_l0 (s : ByteArray) (hs : s.size ≤ 600) (d : Nat) : ∀ (k b i : Nat) (acc : List ByteArray), s.size + 1 - i = d → b ≤ i → i ≤ s.size → acc.length ≤ i → (∀ x ∈ (s.data.toList.drop b).take (i - b), x ≠ 32) → 3 * d + 2 ≤ k →
    spec_PartsOf.l0 k s acc (b : Int) (i : Int) = some (if (s.data.toList.drop i).all okB = true then finP (acc ++ ((glue ((s.data.toList.drop b).take (i - b)) (sp (s.data.toList.drop i))).filter ne).map mkB) else ([], false)) := by
  have hlen : s.data.toList.length = s.size := rfl
  induction d with
  | zero => intro k b i acc hd hb hi; omega
  | succ d ih =>
    intro k b i acc hd hb hi ha hno hk
    obtain ⟨k, rfl⟩ : ∃ m, k = m + 4 := ⟨k - 4, by omega⟩
    have hlast : ∀ (k : Nat) (L : List ByteArray), 1 ≤ k → spec_PartsOf.l0 k s L ((s.size + 1 : Nat) : Int) ((s.size + 1 : Nat) : Int) = some (finP L) := by
      intro k L hk
      obtain ⟨k, rfl⟩ : ∃ m, k = m + 1 := ⟨k - 1, by omega⟩
      rw [spec_PartsOf.l0, if_neg (by omega)]
      unfold finP
      by_cases c : L.length > 10
      · rw [if_pos (by omega), if_pos c]
      · rw [if_neg (by omega), if_neg c]
    have hcur : ((s.data.toList.drop b).take (i - b)).length = i - b := by rw [List.length_take, List.length_drop]; omega
    by_cases hlt : i < s.size
    · have hd' : s.data.toList.drop i = s.data.toList[i] :: s.data.toList.drop (i + 1) := List.drop_eq_getElem_cons (by omega)
      have hr := bt_range s (i : Int)
      have hok := okB_iff s i (by omega)
      have h32 := is32_iff s i (by omega)
      rw [spec_PartsOf.l0, if_pos (by omega), if_pos (by omega), if_pos (by omega), hd', List.all_cons]
      by_cases hlo : bt s (i : Int) < 32
      · rw [if_pos hlo, spec_PartsOf.j1, if_pos rfl, hok, decide_eq_false (by omega), Bool.false_and, if_neg (by simp)]
      · rw [if_neg hlo]
        by_cases hhi : bt s (i : Int) > 126
        · rw [decide_eq_true hhi, spec_PartsOf.j1, if_pos rfl, hok, decide_eq_false (by omega), Bool.false_and, if_neg (by simp)]
        · rw [decide_eq_false hhi, spec_PartsOf.j1, if_neg (by simp), if_pos (by omega), if_pos (by omega), hok, decide_eq_true (show 32 ≤ bt s (i : Int) ∧ bt s (i : Int) ≤ 126 by omega), Bool.true_and]
          by_cases hsp : bt s (i : Int) = 32
          · have e32 := h32.2 hsp
            rw [show (bt s (i : Int) != 32) = false from by rw [hsp]; rfl, spec_PartsOf.j2, if_neg (by simp), e32, sp_space]
            have hrec := fun L hL => ih (k + 1) (i + 1) (i + 1) L (by omega) (by omega) (by omega) hL (by rw [Nat.sub_self, List.take_zero]; intro x hx; cases hx) (by omega)
            have hg : glue ((s.data.toList.drop (i + 1)).take (i + 1 - (i + 1))) (sp (s.data.toList.drop (i + 1))) = sp (s.data.toList.drop (i + 1)) := by
              rw [Nat.sub_self, List.take_zero]
              cases h : sp (s.data.toList.drop (i + 1)) with
              | nil => exact absurd h (sp_ne _)
              | cons x r => rfl
            rw [hg] at hrec
            have hgl : glue ((s.data.toList.drop b).take (i - b)) ([] :: sp (s.data.toList.drop (i + 1))) = (s.data.toList.drop b).take (i - b) :: sp (s.data.toList.drop (i + 1)) := by simp [glue]
            rw [hgl, List.filter_cons]
            by_cases hbi : b < i
            · have hne : ne ((s.data.toList.drop b).take (i - b)) = true := by
                unfold ne
                cases h : (s.data.toList.drop b).take (i - b) with
                | nil => rw [h] at hcur; simp at hcur; omega
                | cons x r => rfl
              rw [if_pos (by omega), if_pos (by omega), if_pos (by omega), if_pos (by omega), if_pos (by omega), Int.toNat_natCast, Int.toNat_natCast, extract_is, w64_p i (by omega), hrec _ (by simp only [List.length_append, List.length_cons, List.length_nil]; omega), if_pos hne, List.map_cons, List.append_assoc]
              rfl
            · have hne : ne ((s.data.toList.drop b).take (i - b)) = false := by
                rw [show i - b = 0 by omega, List.take_zero]; rfl
              rw [if_neg (by omega), w64_p i (by omega), hrec _ (by omega), hne, if_neg (show ¬ (false = true) from by simp)]
          · have e32 : s.data.toList[i] ≠ 32 := fun e => hsp (h32.1 e)
            have hcn : (s.data.toList.drop b).take (i + 1 - b) = (s.data.toList.drop b).take (i - b) ++ [s.data.toList[i]] := by
              rw [show i + 1 - b = (i - b) + 1 by omega, List.take_add_one, List.getElem?_drop, show b + (i - b) = i by omega, List.getElem?_eq_getElem (by omega)]
              rfl
            rw [show (bt s (i : Int) != 32) = true from by simpa using hsp, spec_PartsOf.j2, if_pos rfl, w64_p i (by omega), ih (k + 1) b (i + 1) acc (by omega) (by omega) (by omega) (by omega) (by
              rw [hcn]
              intro x hx
              rw [List.mem_append, List.mem_singleton] at hx
              rcases hx with hx | rfl
              · exact hno x hx
              · exact e32) (by omega), hcn, sp_other _ _ e32, glue_glue]
    · have hi' : i = s.size := by omega
      subst hi'
      rw [spec_PartsOf.l0, if_pos (by omega), if_neg (by omega), spec_PartsOf.j1, if_neg (by simp), if_neg (by omega), spec_PartsOf.j2, if_neg (by simp), List.drop_eq_nil_of_le (show s.data.toList.length ≤ s.size by omega), w64_p s.size (by omega)]
      have hgl : glue ((s.data.toList.drop b).take (s.size - b)) (sp []) = [(s.data.toList.drop b).take (s.size - b)] := by simp [glue, sp]
      rw [hgl, if_pos (show ([] : List UInt8).all okB = true from rfl), List.filter_cons, List.filter_nil]
      by_cases hbi : b < s.size
      · have hne : ne ((s.data.toList.drop b).take (s.size - b)) = true := by
          unfold ne
          cases h : (s.data.toList.drop b).take (s.size - b) with
          | nil => rw [h] at hcur; simp at hcur; omega
          | cons x r => rfl
        rw [if_pos (by omega), if_pos (by omega), if_pos (by omega), if_pos (by omega), if_pos (by omega), Int.toNat_natCast, Int.toNat_natCast, extract_is, hlast _ _ (by omega), if_pos hne]
        rfl
      · have hne : ne ((s.data.toList.drop b).take (s.size - b)) = false := by
          rw [show s.size - b = 0 by omega, List.take_zero]; rfl
        rw [if_neg (by omega), hlast _ _ (by omega), hne, if_neg (by simp), List.map_nil, List.append_nil]
theorem specParts_is (s : ByteArray) (k : Nat) (hk : 2000 ≤ k) : spec_PartsOf.f k s = some (partsR s) := by
  unfold spec_PartsOf.f partsR
  rw [Option.bind_some]
  by_cases h : s.size > 600
  · rw [if_pos (by omega), if_pos h]
  · rw [if_neg (by omega), if_neg h]
    have := specParts_l0 s (by omega) (s.size + 1) k 0 0 [] (by omega) (by omega) (by omega) (by simp) (by simp) (by omega)
    rw [show ((0 : Nat) : Int) = 0 from rfl, List.drop_zero, Nat.sub_zero, List.take_zero, List.nil_append] at this
    have hg : glue [] (sp s.data.toList) = sp s.data.toList := by
      cases h : sp s.data.toList with
      | nil => exact absurd h (sp_ne _)
      | cons x r => rfl
    rw [hg] at this
    exact this
theorem sp_length : ∀ l : List UInt8, (sp l).length ≤ l.length + 1
  | [] => by simp [sp]
  | b :: l => by
    have := sp_length l
    by_cases h : b = 32
    · rw [h, sp_space]; simp only [List.length_cons]; omega
    · rw [sp_other b l h]
      cases hs : sp l with
      | nil => simp [glue]
      | cons x r => rw [hs] at this; simp only [glue, List.length_cons] at *; omega
theorem rdStr_ (xs : List ByteArray) (i : Nat) (h : i < xs.length) : rdOf ByteArray.empty xs (i : Int) = xs[i] := by
  unfold rdOf
  rw [Int.toNat_natCast, List.getD_eq_getElem?_getD, List.getElem?_eq_getElem h, Option.getD_some]
theorem implParts_l1 (L : List (List UInt8)) (hL : L.length ≤ 1000) (d : Nat) : ∀ (k i : Nat) (acc : List ByteArray), L.length - i = d → i ≤ L.length → acc.length ≤ i → d + 1 ≤ k →
    impl_PartsOf.l1 k acc (L.map mkB) ((L.map mkB).length : Int) (i : Int) = some (finP (acc ++ ((L.drop i).filter ne).map mkB)) := by
  induction d with
  | zero =>
    intro k i acc hd hi ha hk
    obtain ⟨k, rfl⟩ : ∃ m, k = m + 1 := ⟨k - 1, by omega⟩
    rw [impl_PartsOf.l1, if_neg (by rw [List.length_map]; omega), List.drop_eq_nil_of_le (by omega), List.filter_nil, List.map_nil, List.append_nil]
    unfold finP
    by_cases c : acc.length > 10
    · rw [if_pos (by omega), if_pos c]
    · rw [if_neg (by omega), if_neg c]
  | succ d ih =>
    intro k i acc hd hi ha hk
    obtain ⟨k, rfl⟩ : ∃ m, k = m + 1 := ⟨k - 1, by omega⟩
    have hlt : i < L.length := by omega
    have hr : rdOf ByteArray.empty (L.map mkB) (i : Int) = mkB L[i] := by rw [rdStr_ _ _ (by rw [List.length_map]; exact hlt), List.getElem_map]
    rw [impl_PartsOf.l1, if_pos (by rw [List.length_map]; omega), if_pos (by omega), if_pos (by rw [List.length_map]; omega), hr, mk_toList, List.drop_eq_getElem_cons hlt, List.filter_cons, w64_p i (by omega)]
    by_cases he : L[i] = []
    · rw [if_pos he, show ne L[i] = false from by rw [he]; rfl, if_neg (show ¬ (false = true) from by simp)]
      exact ih k (i + 1) acc (by omega) (by omega) (by omega) (by omega)
    · have hne : ne L[i] = true := by
        unfold ne
        cases h : L[i] with
        | nil => exact absurd h he
        | cons a l => rfl
      rw [if_neg he, if_pos hne, if_pos (by omega), ih k (i + 1) _ (by omega) (by omega) (by simp only [List.length_append, List.length_cons, List.length_nil]; omega) (by omega), List.map_cons, List.append_assoc]
      rfl
theorem implParts_l0 (s : ByteArray) (hs : s.size ≤ 600) (d : Nat) : ∀ (k i : Nat), s.size - i = d → i ≤ s.size → d + 1000 ≤ k →
    impl_PartsOf.l0 k s [] (i : Int) = some (if (s.data.toList.drop i).all okB = true then finP (((sp s.data.toList).filter ne).map mkB) else ([], false)) := by
  have hlen : s.data.toList.length = s.size := rfl
  induction d with
  | zero =>
    intro k i hd hi hk
    obtain ⟨k, rfl⟩ : ∃ m, k = m + 1 := ⟨k - 1, by omega⟩
    have hspl := sp_length s.data.toList
    rw [impl_PartsOf.l0, if_neg (by omega), List.drop_eq_nil_of_le (by omega)]
    unfold strings_Split.f
    have h1 : (⟨#[32]⟩ : ByteArray).size = 1 := rfl
    rw [if_pos (by omega), if_pos (by omega), Option.bind_some, split_is, if_pos (show ([] : List UInt8).all okB = true from rfl)]
    have := implParts_l1 (sp s.data.toList) (by omega) (sp s.data.toList).length k 0 [] (by omega) (by omega) (by simp) (by omega)
    rw [List.drop_zero, List.nil_append] at this
    exact this
  | succ d ih =>
    intro k i hd hi hk
    obtain ⟨k, rfl⟩ : ∃ m, k = m + 1 := ⟨k - 1, by omega⟩
    have hd' : s.data.toList.drop i = s.data.toList[i]'(by omega) :: s.data.toList.drop (i + 1) := List.drop_eq_getElem_cons (by omega)
    have hok := okB_iff s i (by omega)
    rw [impl_PartsOf.l0, if_pos (by omega), if_pos (by omega), w64_bt, within_is, Option.bind_some, hd', List.all_cons, hok]
    by_cases c : 32 ≤ bt s (i : Int) ∧ bt s (i : Int) ≤ 126
    · rw [decide_eq_true c, if_pos rfl, Bool.true_and, w64_p i (by omega)]
      exact ih k (i + 1) (by omega) (by omega) (by omega)
    · rw [decide_eq_false c, if_neg (by simp), Bool.false_and, if_neg (by simp)]
theorem implParts_is (s : ByteArray) (k : Nat) (hk : 2000 ≤ k) : impl_PartsOf.f k s = some (partsR s) := by
  unfold impl_PartsOf.f partsR
  by_cases h : s.size > 600
  · rw [if_pos (by omega), if_pos h]
  · rw [if_neg (by omega), if_neg h]
    exact implParts_l0 s (by omega) s.size k 0 (by omega) (by omega) (by omega)

/-! ### markT -/
/-! the laws' marks: what is written into a list of names is read again -/
theorem mono_le {α : Type} {f : Nat → Option α} (h : ∀ k, LeO (f k) (f (k + 1))) {a b : Nat} (hab : a ≤ b) : LeO (f a) (f b) := by
  induction hab with
  | refl => exact LeO.refl _
  | step _ ih => exact LeO.trans ih (h _)
theorem markText_l0 (d : Nat) : ∀ (n : Int) (acc : ByteArray) (k : Nat), 0 ≤ n → n ≤ 9223372036854775807 → n < (10 : Int) ^ d → acc.size + d ≤ 1000 → d < k → ∃ t, laws_markText.l0 k n acc = some t := by
  induction d with
  | zero =>
    intro n acc k h0 hbig h1 hs hk
    obtain ⟨k, rfl⟩ : ∃ m, k = m + 1 := ⟨k - 1, by omega⟩
    have h1' : n < 1 := by simpa using h1
    rw [laws_markText.l0, if_neg (by omega), if_pos (by omega)]
    exact ⟨_, rfl⟩
  | succ d ih =>
    intro n acc k h0 hbig h1 hs hk
    obtain ⟨k, rfl⟩ : ∃ m, k = m + 1 := ⟨k - 1, by omega⟩
    by_cases hn : n > 0
    · have hsz : ∀ x : Int, (strOfNums [x]).size = 1 := fun x => str_size [x]
      have hq : wrap64 (Int.tdiv n 10) = n / 10 := by rw [tdiv_e h0, w64 (by omega) (by omega)]
      rw [laws_markText.l0, if_pos hn, Option.bind_some, hsz, if_pos (by omega), hq]
      refine ih _ _ k (by omega) (by omega) ?_ ?_ (by omega)
      · rw [Int.pow_succ] at h1; omega
      · rw [ByteArray.size_append, hsz]; omega
    · rw [laws_markText.l0, if_neg hn, if_pos (by omega)]
      exact ⟨_, rfl⟩
/-- The text that a number is marked with. -/
def mkT (a : Int) : ByteArray := (laws_markText.f 14 a).getD ⟨#[]⟩
theorem mkT_is (a : Int) (h0 : 0 ≤ a) (h1 : a ≤ 1000000000000) (k : Nat) (hk : 14 ≤ k) : laws_markText.f k a = some (mkT a) := by
  have ht : ∃ t, laws_markText.f 14 a = some t := by
    unfold laws_markText.f
    by_cases h : a ≤ 0
    · rw [if_pos h]; exact ⟨_, rfl⟩
    · rw [if_neg h]
      exact markText_l0 13 a _ 14 h0 (by omega) (by omega) (by show 0 + 13 ≤ 1000; omega) (by omega)
  obtain ⟨t, ht⟩ := ht
  have := mono_le (f := fun k => laws_markText.f k a) (fun k => laws_markText.mono a k) hk t ht
  unfold mkT
  rw [ht]
  exact this

/-! ### markStr -/
/-! the laws' marks: what is written into a list of strings is read again -/
theorem rdStr (xs : List ByteArray) (i : Nat) (h : i < xs.length) : rdOf ByteArray.empty xs (i : Int) = xs[i] := by
  unfold rdOf
  rw [Int.toNat_natCast, List.getD_eq_getElem?_getD, List.getElem?_eq_getElem h, Option.getD_some]
def markedS : Nat → Int → List ByteArray
  | 0, _ => []
  | n + 1, a => mkT a :: markedS n (a + 1)
theorem markedS_length (n : Nat) : ∀ a, (markedS n a).length = n := by
  induction n with
  | zero => intro a; rfl
  | succ n ih => intro a; simp [markedS, ih]
theorem w64_a (a : Int) (h0 : 0 ≤ a) (h1 : a ≤ 1000000000) : wrap64 (a + 1) = a + 1 := w64 (by omega) (by omega)
theorem markStringS_l0 (d : Nat) : ∀ (k i : Nat) (xs : List ByteArray) (a : Int), xs.length - i ≤ d → d + 15 ≤ k → i ≤ xs.length → xs.length ≤ 100000000 → 0 ≤ a → a ≤ 1 + (i : Int) →
    laws_markStringS.l0 k xs a (i : Int) = some (a + ((xs.length - i : Nat) : Int), xs.take i ++ markedS (xs.length - i) a) := by
  induction d with
  | zero =>
    intro k i xs a hd hk hi hl h0 h1
    obtain ⟨k, rfl⟩ : ∃ m, k = m + 1 := ⟨k - 1, by omega⟩
    rw [laws_markStringS.l0, if_neg (by omega), List.take_of_length_le (by omega), show xs.length - i = 0 from by omega]
    simp [markedS]
  | succ d ih =>
    intro k i xs a hd hk hi hl h0 h1
    obtain ⟨k, rfl⟩ : ∃ m, k = m + 1 := ⟨k - 1, by omega⟩
    by_cases hi2 : i < xs.length
    · have hr := ih k (i + 1) (xs.set i (mkT a)) (a + 1) (by rw [List.length_set]; omega) (by omega) (by rw [List.length_set]; omega) (by rw [List.length_set]; omega) (by omega) (by omega)
      rw [List.length_set] at hr
      rw [laws_markStringS.l0, if_pos (by omega), mkT_is a h0 (by omega) k (by omega), Option.bind_some, if_pos (by omega), w64_len hi2 (by omega), w64_a a h0 (by omega), Int.toNat_natCast, hr, take_set xs i _ hi2, show xs.length - i = (xs.length - (i + 1)) + 1 from by omega, markedS, List.append_assoc]
      congr 2
      omega
    · rw [laws_markStringS.l0, if_neg (by omega), List.take_of_length_le (by omega), show xs.length - i = 0 from by omega]
      simp [markedS]
theorem markStringS_is (xs : List ByteArray) (hl : xs.length ≤ 100000000) (k : Nat) (hk : xs.length + 15 ≤ k) : laws_markStringS.f k xs 1 = some (1 + (xs.length : Int), markedS xs.length 1) := by
  have := markStringS_l0 xs.length k 0 xs 1 (by omega) hk (by omega) hl (by omega) (by omega)
  simp only [List.take_zero, List.nil_append, Nat.sub_zero] at this
  exact this
theorem heldStringS_l0 (n : Nat) (hn : n ≤ 100000000) (d : Nat) : ∀ (k i : Nat) (pre : List ByteArray) (a : Int), d + i = n → pre.length = i → d + 15 ≤ k → 0 ≤ a → a ≤ 1 + (i : Int) →
    laws_heldStringS.l0 k (pre ++ markedS d a) a (i : Int) = some (a + (d : Int)) := by
  induction d with
  | zero =>
    intro k i pre a hd hp hk h0 h1
    obtain ⟨k, rfl⟩ : ∃ m, k = m + 1 := ⟨k - 1, by omega⟩
    rw [laws_heldStringS.l0, if_neg (by rw [List.length_append, markedS_length]; omega)]
    simp
  | succ d ih =>
    intro k i pre a hd hp hk h0 h1
    obtain ⟨k, rfl⟩ : ∃ m, k = m + 1 := ⟨k - 1, by omega⟩
    have hl : (pre ++ markedS (d + 1) a).length = n := by rw [List.length_append, markedS_length]; omega
    have hg : rdOf ByteArray.empty (pre ++ markedS (d + 1) a) (i : Int) = mkT a := by
      unfold rdOf
      rw [Int.toNat_natCast, List.getD_eq_getElem?_getD, List.getElem?_append_right (by omega), hp, Nat.sub_self]
      rfl
    have hr := ih k (i + 1) (pre ++ [mkT a]) (a + 1) (by omega) (by rw [List.length_append, hp]; rfl) (by omega) (by omega) (by omega)
    rw [List.append_assoc] at hr
    rw [laws_heldStringS.l0, if_pos (by omega), if_pos (by omega), mkT_is a h0 (by omega) k (by omega), Option.bind_some, hg, if_pos rfl, w64_a a h0 (by omega), w64_len (n := n) (by omega) (by omega)]
    show laws_heldStringS.l0 k (pre ++ ([mkT a] ++ markedS d (a + 1))) (a + 1) ((i + 1 : Nat) : Int) = _
    rw [hr]
    congr 1
    omega
theorem heldStringS_is (n : Nat) (hn : n ≤ 100000000) (k : Nat) (hk : n + 15 ≤ k) : laws_heldStringS.f k (markedS n 1) 1 = some (1 + (n : Int)) := by
  have := heldStringS_l0 n hn n k 0 [] 1 (by omega) rfl hk (by omega) (by omega)
  rw [List.nil_append] at this
  exact this
theorem eqStringS_l0 (xs : List ByteArray) (hl : xs.length ≤ 100000000) (d : Nat) : ∀ (k i : Nat), xs.length - i ≤ d → d < k → laws_eqStringS.l0 k xs xs (i : Int) = some true := by
  induction d with
  | zero =>
    intro k i hd hk
    obtain ⟨k, rfl⟩ : ∃ m, k = m + 1 := ⟨k - 1, by omega⟩
    rw [laws_eqStringS.l0, if_neg (by omega)]
  | succ d ih =>
    intro k i hd hk
    obtain ⟨k, rfl⟩ : ∃ m, k = m + 1 := ⟨k - 1, by omega⟩
    by_cases hi : i < xs.length
    · rw [laws_eqStringS.l0, if_pos (by omega), if_pos (by omega), if_pos (by omega), if_pos rfl, w64_len hi (by omega)]
      exact ih k (i + 1) (by omega) (by omega)
    · rw [laws_eqStringS.l0, if_neg (by omega)]
theorem eqStringS_self (xs : List ByteArray) (hl : xs.length ≤ 100000000) (k : Nat) (hk : xs.length < k) : laws_eqStringS.f k xs xs = some true := by
  unfold laws_eqStringS.f
  rw [if_pos rfl]
  exact eqStringS_l0 xs hl xs.length k 0 (by omega) hk

/-! ### FnExactPartsOf -/
theorem FnExactPartsOf : laws_FnExactPartsOf.Pure := by
  intro s hs
  refine ⟨10000, ?_⟩
  unfold laws_FnExactPartsOf.f
  by_cases h : (s.size : Int) > 1048576
  · rw [if_pos h]
  have hl : (partsR s).1.length ≤ 10 := by
    unfold partsR finP
    split
    · simp
    · split
      · split
        · simp
        · rename_i h2; show (((sp s.data.toList).filter ne).map mkB).length ≤ 10; omega
      · simp
  have m1 := markStringS_is (partsR s).1 (by omega) 9998 (by omega)
  have m2 := fun k (hk : 100 ≤ k) => heldStringS_is (partsR s).1.length (by omega) k (by omega)
  rw [if_neg h, specParts_is s _ (by omega), Option.bind_some, implParts_is s _ (by omega), Option.bind_some, eqStringS_self _ (by omega) _ (by omega), Option.bind_some, if_pos rfl, show ((partsR s).2 != (partsR s).2) = false from by simp, show (10000 : Nat) = 9998 + 2 from rfl, laws_FnExactPartsOf.j0, if_neg (by simp)]
  have m1 := markStringS_is (partsR s).1 (by omega) 9999 (by omega)
  rw [m1, Option.bind_some]
  show ((laws_heldStringS.f 9999 (markedS (partsR s).1.length 1) 1).bind _ : Option _) = _
  rw [m2 9999 (by omega), Option.bind_some, if_neg (by omega), if_pos rfl, implParts_is s _ (by omega), Option.bind_some, eqStringS_self _ (by omega) _ (by omega), Option.bind_some, if_pos rfl, show ((partsR s).2 != (partsR s).2) = false from by simp, laws_FnExactPartsOf.j1, if_neg (by simp)]
  show ((laws_heldStringS.f 9998 (markedS (partsR s).1.length 1) 1).bind _ : Option _) = _
  rw [m2 9998 (by omega), Option.bind_some, if_neg (by omega), if_pos rfl]

end Go.Proofs.YtnmhggdaccbbfaaDoor.Pure
