import Derived.Test.YtkbgmojomgelbaaGreatMSrt8
import Derived.Test.YtkbgmojomgelbaaGreatMShelf
import Derived.Sort.LotD5
import Derived.Laws.Bits64
import Derived.Laws.Bits64b
import Derived.Lib.BitFns
import Derived.Deep.RegionHeld
set_option linter.unusedVariables false
set_option linter.unusedSimpArgs false
namespace Go.Proofs.YtkbgmojomgelbaaGreat.Srt
open Go.RowKit Go.Sort
structure Sv (w w' : World) (g : Nat) (v : Value) : Prop where
  grown : w.grownBy w' (some g)
  cell : w'.cell? ⟨g, 0, none⟩ = some v
  free : w'.frozen? ⟨g, 0, none⟩ = false
theorem store_twice (w : World) (g : Nat) (v v' : Value) : (w.setCell ⟨g, 0, none⟩ v).setCell ⟨g, 0, none⟩ v' = w.setCell ⟨g, 0, none⟩ v' := by
  rw [setCell_eq, setCell_eq, mapBlock_mapBlock, setCell_eq]
  congr 1
  funext c
  simp
theorem Sv.set {w : World} {g : Nat} {u v : Value} (hc : w.cell? ⟨g, 0, none⟩ = some u) (hf : w.frozen? ⟨g, 0, none⟩ = false) (n : Nat) : Sv w ((w.setCell ⟨g, 0, none⟩ v).drewN n) g v where
  grown := ⟨rfl, rfl, rfl, by simp [World.setCell, World.drewN], fun k hk hr => Below.heap_setCell w ⟨g, 0, none⟩ _ k (fun e => hr (by rw [e]))⟩
  cell := by show (w.setCell ⟨g, 0, none⟩ v).cell? ⟨g, 0, none⟩ = some v; first | exact World.cell?_setCell_same _ _ _ hc | exact World.cell?_setCell_same _ _ hc | exact World.cell?_setCell_same _ hc
  free := by show (w.setCell ⟨g, 0, none⟩ v).frozen? ⟨g, 0, none⟩ = false; exact (World.frozen?_setCells g [v] 0 w ⟨g, 0, none⟩).trans hf
set_option maxHeartbeats 4000000 in
theorem next_ (g X : Nat) (hX : X < 18446744073709551616) (w : World) (hc : w.cell? ⟨g, 0, none⟩ = some (.int .u64 X)) (hf : w.frozen? ⟨g, 0, none⟩ = false) :
    Calls Tryz.prog 168 #[.pointer (some ⟨g, 0, none⟩)] w fun e w' => e = .returned (.int .u64 (xorNextN X : Nat)) ∧ Sv w w' g (.int .u64 (xorNextN X : Nat)) := by
  obtain ⟨A, hA⟩ : ∃ A : Nat, A = X ^^^ (X * 8192 % 18446744073709551616) := ⟨_, rfl⟩
  obtain ⟨B, hB⟩ : ∃ B : Nat, B = A ^^^ (A / 128) := ⟨_, rfl⟩
  obtain ⟨C, hC⟩ : ∃ C : Nat, C = B ^^^ (B * 131072 % 18446744073709551616) := ⟨_, rfl⟩
  have lA : A < 18446744073709551616 := by rw [hA]; exact Nat.xor_lt_two_pow (n := 64) (by omega) (by omega)
  have lB : B < 18446744073709551616 := by rw [hB]; exact Nat.xor_lt_two_pow (n := 64) (by omega) (by omega)
  have e1 : bits .xor .u64 (X : Int) (IntKind.u64.wrap ((X : Int) * 8192)) = (A : Int) := by
    rw [IntKind.wrap_u64, show ((X : Int) * 8192 % 18446744073709551616) = ((X * 8192 % 18446744073709551616 : Nat) : Int) by omega, bits_xor_u64_nat _ _ hX (by omega), hA]
  have e2 : bits .xor .u64 (A : Int) ((A : Int) / 128) = (B : Int) := by
    rw [show ((A : Int) / 128) = ((A / 128 : Nat) : Int) by omega, bits_xor_u64_nat _ _ lA (by omega), hB]
  have e3 : bits .xor .u64 (B : Int) (IntKind.u64.wrap ((B : Int) * 131072)) = (C : Int) := by
    rw [IntKind.wrap_u64, show ((B : Int) * 131072 % 18446744073709551616) = ((B * 131072 % 18446744073709551616 : Nat) : Int) by omega, bits_xor_u64_nat _ _ lB (by omega), hC]
  have hv : xorNextN X = C := by unfold xorNextN; simp only []; rw [← hA, ← hB, ← hC]
  rw [hv]
  clear hA hB hC hv
  have twice : ∀ v v', (w.setCell ⟨g, 0, none⟩ v).setCell ⟨g, 0, none⟩ v' = w.setCell ⟨g, 0, none⟩ v' := store_twice w g
  go_enter Tryz.func168, Tryz.ntmps168
  go_wp2
  go_region
  all_goals go_wp2
  all_goals go_region
  all_goals go_wp2
  all_goals go_region
  all_goals go_wp2
  go_ret
  exact ⟨rfl, Sv.set hc hf 3⟩
theorem len_is (m : Nat) : ∀ x : Nat, x ≤ m → x < 2 ^ 64 → Lib.bitLen x = bitsLen x := by
  induction m with
  | zero =>
    intro x hx h
    obtain rfl : x = 0 := by omega
    rfl
  | succ m ih =>
    intro x hx h
    by_cases h0 : x = 0
    · subst h0; rfl
    · rw [Lib.bitLen_half x h0 h, ih (x / 2) (by omega) (by omega)]
      unfold bitsLen
      rw [if_neg h0]
      conv => rhs; rw [Nat.log2_def]
      by_cases h2 : 2 ≤ x
      · rw [if_pos h2, if_neg (by omega)]; omega
      · obtain rfl : x = 1 := by omega
        rfl
theorem power (n : Nat) (hn : n < 4611686018427387904) (w : World) : Calls Tryz.prog 167 #[.int .i64 n] w fun e w' => e = .returned (.int .u64 ((1 <<< bitsLen n : Nat) : Int)) ∧ w' = w := by
  have hLen : ∀ w, Calls Tryz.prog 136 #[.int .u64 (n : Int)] w fun e w' => e = .returned (.int .i64 (bitsLen n : Nat)) ∧ w' = w := fun w => by
    have h := Tryz.bits_Len (n : Int) w (by omega) (by omega)
    rwa [Int.toNat_natCast, len_is n n (Nat.le_refl _) (by omega)] at h
  have hk : bitsLen n ≤ 62 := (bitsLen_le_iff n 62).2 (by omega)
  have hp : IntKind.u64.wrap ((2 : Int) ^ (bitsLen n)) = ((1 <<< bitsLen n : Nat) : Int) := by
    have h : (2 : Nat) ^ (bitsLen n) ≤ 2 ^ 62 := Nat.pow_le_pow_right (by decide) hk
    rw [IntKind.wrap_u64, Nat.one_shiftLeft, show ((2 : Int) ^ (bitsLen n)) = ((2 ^ (bitsLen n) : Nat) : Int) by push_cast; rfl]
    generalize (2 : Nat) ^ (bitsLen n) = p at h
    omega
  go_enter Tryz.func167, Tryz.ntmps167
  go_wp2_with (go_at_call 136; refine (hLen _).mono ?_; rintro e w' ⟨rfl, rfl⟩)
  go_ret
  exact ⟨rfl, rfl⟩
theorem Rw.side {w wr w2 : World} {blk off g : Nat} {d : Array Int} (h : Rw w wr blk off d) (hg : wr.grownBy w2 (some g)) (hge : w.heap.size ≤ g) : Rw w w2 blk off d where
  grown := ⟨hg.os.trans h.grown.os, hg.tape.trans h.grown.tape, hg.output.trans h.grown.output, Nat.le_trans h.grown.size hg.size, fun k hk hr => (hg.block k (Nat.lt_of_lt_of_le hk h.grown.size) (fun e => by injection e with e; omega)).trans (h.grown.block k hk hr)⟩
  holds := holds_block h.holds (hg.block blk h.ltw (fun e => by injection e with e; have := h.lt; omega))
  shape := fun cur e fr hc => by
    obtain ⟨c1, e1, s1⟩ := h.shape cur e fr hc
    exact ⟨c1, (hg.block blk h.ltw (fun e => by injection e with e; have := h.lt; omega)).trans e1, s1⟩
  lt := h.lt
def brk (a L M i0 : Nat) : Nat → Nat → UInt64 × Array Int → Array Int
  | 0, _, st => st.2
  | s + 1, t, st => brk a L M i0 s (t + 1) (breakStep a L M st (i0 + t))
theorem brk_all (d : Array Int) (a b L : Nat) (hL : L = b - a) (h8 : L ≥ 8) : breakPatterns d a b = brk a L (1 <<< bitsLen L) (a + L / 4 * 2 - 1) 3 0 (UInt64.ofNat L, d) := by
  subst hL
  unfold breakPatterns
  simp only [if_pos h8]
  rfl
def other (L M : Nat) (r : Nat) : Nat := if r &&& (M - 1) ≥ L then (r &&& (M - 1)) - L else r &&& (M - 1)
theorem brk_go (a L M i0 s t : Nat) (r : UInt64) (d : Array Int) : brk a L M i0 (s + 1) t (r, d) = brk a L M i0 s (t + 1) (xorNext r, swp d (i0 + t) (a + other L M (xorNext r).toNat)) := rfl
set_option maxRecDepth 100000 in
set_option maxHeartbeats 16000000 in
theorem break_ (blk off cap a b n : Nat) (d : Array Int) (w : World) (hn : d.size = n) (hH : Holds (Value.int .u8) w blk off d) (hblk : blk < w.heap.size) (hab : a ≤ b) (hb : b ≤ n) (hsz : n < 4611686018427387904) :
    Calls Tryz.prog 145 #[.slice (some ⟨blk, off, none⟩) n cap, .int .i64 a, .int .i64 b] w fun e w' => e = .returned (.tuple #[]) ∧ Rw w w' blk off (breakPatterns d a b) := by
  obtain ⟨L, hL⟩ : ∃ L : Nat, Aside (L = b - a) := ⟨_, rfl⟩
  have hLz : (b : Int) - (a : Int) = (L : Int) := by have h_ : L = b - a := hL.out; omega
  have hLn : a + L = b := by have h_ : L = b - a := hL.out; omega
  have R0 : Aside (Rw w w blk off d) := Rw.refl hH hblk
  clear hH
  by_cases h8 : L ≥ 8
  · have h8z : (8 : Int) ≤ (L : Int) := by omega
    rw [brk_all d a b L hL.out h8]
    obtain ⟨M, hM⟩ : ∃ M : Nat, Aside (M = 1 <<< bitsLen L) := ⟨_, rfl⟩
    have hM1 : 1 ≤ M := by rw [hM.out, Nat.one_shiftLeft]; exact Nat.two_pow_pos _
    have hM2 : M ≤ 2 * L := by rw [hM.out, Nat.one_shiftLeft]; exact two_pow_bitsLen_le (by omega)
    have hP : ∀ w, Calls Tryz.prog 167 #[.int .i64 (L : Int)] w fun e w' => e = .returned (.int .u64 (M : Int)) ∧ w' = w := by rw [hM.out]; exact fun w => power L (by omega) w
    rw [← hM.out]
    obtain ⟨P, HP⟩ : ∃ P, Aside (brk a L M (a + L / 4 * 2 - 1) 3 0 (UInt64.ofNat L, d) = P) := ⟨_, rfl⟩
    rw [HP.out]
    obtain ⟨q, hq⟩ : ∃ q : Nat, Aside (q = L / 4) := ⟨_, rfl⟩
    have hqz : Int.tdiv (L : Int) 4 = (q : Int) := by
      rw [Int.tdiv_eq_ediv_of_nonneg (by omega), hq.out]
      omega
    have hq1 : 4 * q ≤ L := by have h_ : q = L / 4 := hq.out; omega
    have hq2 : 2 ≤ q := by have h_ : q = L / 4 := hq.out; omega
    rw [← hq.out] at HP
    have RU : Aside (Rw w (w.alloc (.cells #[.int .u64 (L : Int)] 202)) blk off d) := R0.out.below ((Below.refl _ w).alloc (Nat.le_refl _) _)
    go_enter Tryz.func145, Tryz.ntmps145
    go_wp2_with (go_at_call 167; with_reducible refine (hP _).mono ?_; rintro e w' ⟨rfl, rfl⟩)
    go_loopg [9] 4 (fun gg s9 wr => ∃ (t s : Nat) (r : UInt64) (dk : Array Int), s9 = .int .i64 ((a + q * 2 - 1 + t : Nat) : Int) ∧ t + s = 3 ∧ s ≤ gg ∧ dk.size = n ∧ Aside (Rw w wr blk off dk) ∧ Aside (wr.cell? ⟨w.heap.size, 0, none⟩ = some (.int .u64 (r.toNat : Int))) ∧ Aside (wr.frozen? ⟨w.heap.size, 0, none⟩ = false) ∧
      Aside (brk a L M (a + q * 2 - 1) s t (r, dk) = P))
    case atStart => exact ⟨0, 3, UInt64.ofNat L, d, by congr 1; omega, rfl, by omega, hn, RU.out, by
      show (w.alloc (.cells #[.int .u64 (L : Int)] 202)).cell? ⟨w.heap.size, 0, none⟩ = some (.int .u64 ((UInt64.ofNat L).toNat : Int))
      rw [show (UInt64.ofNat L).toNat = L from by simp; omega]
      simp, by show (w.alloc (.cells #[.int .u64 (L : Int)] 202)).frozen? ⟨w.heap.size, 0, none⟩ = false; simp, HP.out⟩
    case round =>
      clear RU HP hP
      obtain ⟨t, s, r, dk, rfl, hts, hg, hsk, RK, HC, HF, HB⟩ := hrel
      by_cases hs : s = 0
      · subst hs
        have hle : ¬ ((a + q * 2 - 1 + t : Nat) : Int) ≤ (a : Int) + (q : Int) * 2 + 1 := by omega
        go_wp2
        go_end0
        have HB2 : dk = P := HB.out
        rw [← HB2]
        exact ⟨rfl, RK.out⟩
      · obtain ⟨s, rfl⟩ : ∃ s', s = s' + 1 := ⟨s - 1, by omega⟩
        have hle : ((a + q * 2 - 1 + t : Nat) : Int) ≤ (a : Int) + (q : Int) * 2 + 1 := by omega
        have lR : r.toNat < 18446744073709551616 := r.toNat_lt
        obtain ⟨R', hR'⟩ : ∃ R' : Nat, Aside (R' = xorNextN r.toNat) := ⟨_, rfl⟩
        have lR' : R' < 18446744073709551616 := by rw [hR'.out]; exact xorNextN_lt _ lR
        obtain ⟨O, hO⟩ : ∃ O : Nat, Aside (O = R' &&& (M - 1)) := ⟨_, rfl⟩
        have lO : O ≤ M - 1 := by rw [hO.out]; exact Nat.and_le_right
        have eAnd : bits .and .u64 (R' : Int) ((M : Int) - 1) = (O : Int) := by
          rw [show ((M : Int) - 1) = ((M - 1 : Nat) : Int) by omega, bits_and_u64_nat _ _ lR' (by omega), hO.out]
        have hNext : Calls Tryz.prog 168 #[.pointer (some ⟨w.heap.size, 0, none⟩)] wr fun e w' => e = .returned (.int .u64 (R' : Int)) ∧ Sv wr w' w.heap.size (.int .u64 (R' : Int)) := by
          rw [hR'.out]; exact next_ w.heap.size r.toNat lR wr HC.out HF.out
        obtain ⟨o, ho⟩ : ∃ o : Nat, Aside (o = other L M (xorNext r).toNat) := ⟨_, rfl⟩
        have hoO : (L ≤ O → o = O - L) ∧ (¬ L ≤ O → o = O) := by
          have e1 : o = other L M (xorNext r).toNat := ho.out
          have e2 : O = (xorNext r).toNat &&& (M - 1) := by have h_ : O = R' &&& (M - 1) := hO.out; rw [h_, hR'.out, xorNext_toNat]
          unfold other at e1
          rw [← e2] at e1
          constructor
          · intro h_; rw [e1, if_pos h_]
          · intro h_; rw [e1, if_neg h_]
        obtain ⟨G, HG⟩ : ∃ G : Nat → Int, Aside (∀ t, G t = dk[t]!) := ⟨fun t => dk[t]!, fun _ => rfl⟩
        obtain ⟨i0, hi0⟩ : ∃ i0 : Nat, i0 = a + q * 2 - 1 + t := ⟨_, rfl⟩
        rw [← hi0] at hle ⊢
        have hi0n : i0 < n := by omega
        have key : ∀ w2, Sv wr w2 w.heap.size (.int .u64 (R' : Int)) → (∀ t, t < n → w2.cell? ⟨blk, off + t, none⟩ = some (.int .u8 (G t))) ∧ (∀ t, t < n → w2.frozen? ⟨blk, off + t, none⟩ = false) ∧ Aside (Rw w w2 blk off dk) ∧ (∃ v', (w2.setCell ⟨blk, off + i0, none⟩ (.int .u8 (G (a + o)))).cell? ⟨blk, off + (a + o), none⟩ = some v') := fun w2 S => by
          have R2 := RK.out.side S.grown (Nat.le_refl _)
          have hc2 : ∀ t, t < n → w2.cell? ⟨blk, off + t, none⟩ = some (.int .u8 (G t)) := fun t ht => by rw [HG.out]; exact R2.cells t (by omega)
          exact ⟨hc2, fun t ht => R2.free t (by omega), R2, cell?_setCell_some (hc2 (a + o) (by omega))⟩
        have fin : ∀ w2, Sv wr w2 w.heap.size (.int .u64 (R' : Int)) → Rw w w2 blk off dk → ∃ (t' s' : Nat) (r' : UInt64) (dk' : Array Int), i0 + 1 = a + q * 2 - 1 + t' ∧ t' + s' = 3 ∧ s' ≤ s ∧ dk'.size = n ∧ (∀ W, W = ((w2.setCell ⟨blk, off + i0, none⟩ (.int .u8 (G (a + o)))).setCell ⟨blk, off + (a + o), none⟩ (.int .u8 (G i0))).drew → Rw w W blk off dk' ∧ W.cell? ⟨w.heap.size, 0, none⟩ = some (.int .u64 (r'.toNat : Int)) ∧ W.frozen? ⟨w.heap.size, 0, none⟩ = false) ∧
            brk a L M (a + q * 2 - 1) s' t' (r', dk') = P := fun w2 S R2 => by
          have hne : blk ≠ w.heap.size := by have := R2.lt; omega
          refine ⟨t + 1, s, xorNext r, swp dk i0 (a + o), by omega, by omega, Nat.le_refl _, by rw [size_swp]; exact hsk, fun W hW => ?_, ?_⟩
          · subst hW
            refine ⟨?_, ?_, ?_⟩
            · rw [HG.out, HG.out]
              exact (R2.swap i0 (a + o) (by omega) (by omega)).drew
            · show ((w2.setCell ⟨blk, off + i0, none⟩ _).setCell ⟨blk, off + (a + o), none⟩ _).cell? ⟨w.heap.size, 0, none⟩ = _
              rw [World.cell?_setCell_far _ _ _ _ hne, World.cell?_setCell_far _ _ _ _ hne, S.cell, hR'.out, xorNext_toNat]
            · show ((w2.setCell ⟨blk, off + i0, none⟩ _).setCell ⟨blk, off + (a + o), none⟩ _).frozen? ⟨w.heap.size, 0, none⟩ = _
              exact ((World.frozen?_setCells blk [_] (off + (a + o)) _ _).trans (World.frozen?_setCells blk [_] (off + i0) w2 _)).trans S.free
          · rw [← HB.out, brk_go, ← hi0, ← ho.out]
        have hoL : o < L := by
          by_cases h_ : L ≤ O
          · rw [hoO.1 h_]; omega
          · rw [hoO.2 h_]; omega
        have FIN : Aside (∀ w2, Sv wr w2 w.heap.size (.int .u64 (R' : Int)) → Rw w w2 blk off dk → ∃ (t' s' : Nat) (r' : UInt64) (dk' : Array Int), i0 + 1 = a + q * 2 - 1 + t' ∧ t' + s' = 3 ∧ s' ≤ s ∧ dk'.size = n ∧ (∀ W, W = ((w2.setCell ⟨blk, off + i0, none⟩ (.int .u8 (G (a + o)))).setCell ⟨blk, off + (a + o), none⟩ (.int .u8 (G i0))).drew → Rw w W blk off dk' ∧ W.cell? ⟨w.heap.size, 0, none⟩ = some (.int .u64 (r'.toNat : Int)) ∧ W.frozen? ⟨w.heap.size, 0, none⟩ = false) ∧
            brk a L M (a + q * 2 - 1) s' t' (r', dk') = P) := fin
        have HI0 : Aside (i0 = a + q * 2 - 1 + t) := hi0
        clear fin hi0 hts
        by_cases hLO : L ≤ O
        · have ho2 : o = O - L := hoO.1 hLO
          clear hoO ho lR lR' hR' hO
          subst ho2
          go_wp2_with (go_at_call 168; with_reducible refine hNext.mono ?_; rintro e w2 ⟨rfl, S⟩; obtain ⟨hc2, hf2, R2, v', hy'⟩ := key w2 S; clear key)
          go_region
          go_wp2
          go_roundg s
          case measure => omega
          case rel =>
            obtain ⟨t', s', r', dk', q1, q2, q3, q4, q5, q6⟩ := FIN.out w2 S R2.out
            obtain ⟨x1, x2, x3⟩ := q5 _ rfl
            exact ⟨t', s', r', dk', by first | (rw [← q1]; go_num) | (congr 1; omega), q2, q3, q4, x1, x2, x3, q6⟩
        · have ho2 : o = O := hoO.2 hLO
          clear hoO ho lR lR' hR' hO
          subst ho2
          go_wp2_with (go_at_call 168; with_reducible refine hNext.mono ?_; rintro e w2 ⟨rfl, S⟩; obtain ⟨hc2, hf2, R2, v', hy'⟩ := key w2 S; clear key)
          go_region
          go_wp2
          go_roundg s
          case measure => omega
          case rel =>
            obtain ⟨t', s', r', dk', q1, q2, q3, q4, q5, q6⟩ := FIN.out w2 S R2.out
            obtain ⟨x1, x2, x3⟩ := q5 _ rfl
            exact ⟨t', s', r', dk', by first | (rw [← q1]; go_num) | (congr 1; omega), q2, q3, q4, x1, x2, x3, q6⟩
  · have h8z : ¬ (8 : Int) ≤ (L : Int) := by omega
    have hB : breakPatterns d a b = d := by
      unfold breakPatterns
      have h_ : L = b - a := hL.out
      simp only [← h_, if_neg h8]
    rw [hB]
    go_enter Tryz.func145, Tryz.ntmps145
    go_wp2
    go_end0
    exact ⟨rfl, R0.out⟩
end Go.Proofs.YtkbgmojomgelbaaGreat.Srt
