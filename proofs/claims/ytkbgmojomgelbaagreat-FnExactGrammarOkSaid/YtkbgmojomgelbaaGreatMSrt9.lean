import Derived.Test.YtkbgmojomgelbaaGreatMSrt8
set_option linter.unusedVariables false
set_option linter.unusedSimpArgs false
namespace Go.Proofs.YtkbgmojomgelbaaGreat.Srt
open Go.RowKit Go.Sort
def hintN : Hint → Int
  | .unknown => 0
  | .increasing => 1
  | .decreasing => 2
def hintOf (s : Nat) : Hint := if s = 0 then .increasing else if s = 12 then .decreasing else .unknown
theorem hint_cases (s : Nat) : ((s : Int) = 0 ∧ hintN (hintOf s) = 1) ∨ (¬ (s : Int) = 0 ∧ (s : Int) = 12 ∧ hintN (hintOf s) = 2) ∨ (¬ (s : Int) = 0 ∧ ¬ (s : Int) = 12 ∧ hintN (hintOf s) = 0) := by
  unfold hintOf
  by_cases h0 : s = 0
  · left; rw [if_pos h0]; exact ⟨by omega, rfl⟩
  · by_cases h1 : s = 12
    · right; left; rw [if_neg h0, if_pos h1]; exact ⟨by omega, by omega, rfl⟩
    · right; right; rw [if_neg h0, if_neg h1]; exact ⟨by omega, by omega, rfl⟩
theorem choose_big (d : Array Int) (a b q : Nat) (hq : q = (b - a) / 4) (h8 : b - a ≥ 8) (h50 : b - a ≥ 50) {i1 s1 j1 s2 k1 s3 j4 s4 : Nat} (h1 : medianAdjacent ltInt d (a + q) 0 = (i1, s1)) (h2 : medianAdjacent ltInt d (a + q * 2) s1 = (j1, s2)) (h3 : medianAdjacent ltInt d (a + q * 3) s2 = (k1, s3)) (h4 : median ltInt d i1 j1 k1 s3 = (j4, s4)) :
    choosePivot ltInt d a b = (j4, hintOf s4) := by
  unfold choosePivot hintOf
  simp only [← hq, if_pos h8, if_pos h50, Nat.mul_one, h1, h2, h3, h4]
theorem choose_mid (d : Array Int) (a b q : Nat) (hq : q = (b - a) / 4) (h8 : b - a ≥ 8) (h50 : ¬ b - a ≥ 50) {j4 s4 : Nat} (h4 : median ltInt d (a + q) (a + q * 2) (a + q * 3) 0 = (j4, s4)) : choosePivot ltInt d a b = (j4, hintOf s4) := by
  unfold choosePivot hintOf
  simp only [← hq, if_pos h8, if_neg h50, Nat.mul_one, h4]
theorem choose_small (d : Array Int) (a b q : Nat) (hq : q = (b - a) / 4) (h8 : ¬ b - a ≥ 8) : choosePivot ltInt d a b = (a + q * 2, .increasing) := by
  unfold choosePivot
  simp only [← hq, if_neg h8, if_pos]
theorem med_bound (d : Array Int) (a b c s n : Nat) (ha : a < n) (hb : b < n) (hc : c < n) : (median ltInt d a b c s).1 < n ∧ (median ltInt d a b c s).2 ≤ s + 3 := by
  have b1 := order_bound d a b s n ha hb
  have b2 := order_bound d (order2 ltInt d a b s).2.1 c (order2 ltInt d a b s).2.2 n b1.2.1 hc
  have b3 := order_bound d (order2 ltInt d a b s).1 (order2 ltInt d (order2 ltInt d a b s).2.1 c (order2 ltInt d a b s).2.2).1 (order2 ltInt d (order2 ltInt d a b s).2.1 c (order2 ltInt d a b s).2.2).2.2 n b1.1 b2.1
  refine ⟨b3.2.1, ?_⟩
  have h1 := b1.2.2
  have h2 := b2.2.2
  have h3 := b3.2.2
  exact Nat.le_trans h3 (by omega)
theorem adj_bound (d : Array Int) (a s n : Nat) (ha : 1 ≤ a) (hb : a + 1 < n) : (medianAdjacent ltInt d a s).1 < n ∧ (medianAdjacent ltInt d a s).2 ≤ s + 3 :=
  med_bound d (a - 1) a (a + 1) s n (by omega) (by omega) (by omega)
set_option maxHeartbeats 8000000 in
theorem choose_ (blk off cap a b n : Nat) (d : Array Int) (w : World) (hn : d.size = n) (hH : Holds (Value.int .u8) w blk off d) (hblk : blk < w.heap.size) (hab : a < b) (hb : b ≤ n) (hsz : n < 4611686018427387904) :
    Calls Tryz.prog 146 #[.slice (some ⟨blk, off, none⟩) n cap, .int .i64 a, .int .i64 b] w fun e w' => e = .returned (.tuple #[.int .i64 ((choosePivot ltInt d a b).1 : Nat), .int .i64 (hintN (choosePivot ltInt d a b).2)]) ∧ Below w.heap.size w w' := by
  obtain ⟨q, hq⟩ : ∃ q : Nat, q = (b - a) / 4 := ⟨_, rfl⟩
  have hqz : Int.tdiv ((b : Int) - (a : Int)) 4 = (q : Int) := by
    rw [Int.tdiv_eq_ediv_of_nonneg (by omega)]
    omega
  have hq1 : 4 * q ≤ b - a := by omega
  have hq2 : b - a < 4 * q + 4 := by omega
  have HQ : Aside (q = (b - a) / 4) := hq
  clear hq
  obtain ⟨W0, hW0⟩ : ∃ W0, W0 = w.alloc (.cells #[.int .i64 0] 3) := ⟨_, rfl⟩
  have hb0 : Below w.heap.size w W0 := by rw [hW0]; exact (Below.refl _ w).alloc (Nat.le_refl _) _
  have hc0 : W0.cell? ⟨w.heap.size, 0, none⟩ = some (.int .i64 ((0 : Nat) : Int)) := by rw [hW0]; simp
  have hf0 : W0.frozen? ⟨w.heap.size, 0, none⟩ = false := by rw [hW0]; simp
  have hH0 : Holds (Value.int .u8) W0 blk off d := holds_block hH (hb0.block blk hblk)
  have hblk0 : blk < W0.heap.size := Nat.lt_of_lt_of_le hblk hb0.size
  have hne : blk ≠ w.heap.size := by omega
  have END : ∀ (w' : World) (s : Nat), Sp W0 w' w.heap.size s → Below w.heap.size w w' := fun w' s S => ⟨S.grown.os.trans hb0.os, S.grown.tape.trans hb0.tape, S.grown.output.trans hb0.output, Nat.le_trans hb0.size S.grown.size, fun k hk => (S.grown.block k (Nat.lt_of_lt_of_le hk hb0.size) (fun e => by injection e with e; omega)).trans (hb0.block k hk)⟩
  by_cases h8 : b - a ≥ 8
  · have h8z : (8 : Int) ≤ (b : Int) - (a : Int) := by omega
    by_cases h50 : b - a ≥ 50
    · have h50z : (50 : Int) ≤ (b : Int) - (a : Int) := by omega
      obtain ⟨i1, s1, h1⟩ : ∃ x y, medianAdjacent ltInt d (a + q) 0 = (x, y) := ⟨_, _, rfl⟩
      have c1 := medianAdjacent_ blk off cap (a + q) n w.heap.size 0 d W0 hn hH0 hblk0 hne hc0 hf0 (by omega) (by omega) (by omega) hsz
      rw [h1] at c1
      have b1 : i1 < n ∧ s1 ≤ 3 := by
        have e1 := adj_bound d (a + q) 0 n (by omega) (by omega)
        rw [h1] at e1
        exact ⟨e1.1, by have := e1.2; omega⟩
      obtain ⟨j1, s2, h2⟩ : ∃ x y, medianAdjacent ltInt d (a + q * 2) s1 = (x, y) := ⟨_, _, rfl⟩
      have c2 : ∀ w1, Sp W0 w1 w.heap.size s1 → _ := fun w1 S1 => medianAdjacent_ blk off cap (a + q * 2) n w.heap.size s1 d w1 hn (S1.holds hH0 hblk0 hne) (S1.ltw hblk0) hne S1.cell S1.free (by omega) (by omega) (by omega) hsz
      rw [h2] at c2
      have b2 : j1 < n ∧ s2 ≤ 6 := by
        have e1 := adj_bound d (a + q * 2) s1 n (by omega) (by omega)
        rw [h2] at e1
        exact ⟨e1.1, by have := e1.2; omega⟩
      obtain ⟨k1, s3, h3⟩ : ∃ x y, medianAdjacent ltInt d (a + q * 3) s2 = (x, y) := ⟨_, _, rfl⟩
      have c3 : ∀ w1, Sp W0 w1 w.heap.size s2 → _ := fun w1 S1 => medianAdjacent_ blk off cap (a + q * 3) n w.heap.size s2 d w1 hn (S1.holds hH0 hblk0 hne) (S1.ltw hblk0) hne S1.cell S1.free (by omega) (by omega) (by omega) hsz
      rw [h3] at c3
      have b3 : k1 < n ∧ s3 ≤ 9 := by
        have e1 := adj_bound d (a + q * 3) s2 n (by omega) (by omega)
        rw [h3] at e1
        exact ⟨e1.1, by have := e1.2; omega⟩
      obtain ⟨j4, s4, h4⟩ : ∃ x y, median ltInt d i1 j1 k1 s3 = (x, y) := ⟨_, _, rfl⟩
      have c4 : ∀ w1, Sp W0 w1 w.heap.size s3 → _ := fun w1 S1 => median_ blk off cap i1 j1 k1 n w.heap.size s3 d w1 hn (S1.holds hH0 hblk0 hne) (S1.ltw hblk0) hne S1.cell S1.free b1.1 b2.1 b3.1 (by omega) hsz
      rw [h4] at c4
      have HC := choose_big d a b q HQ.out h8 h50 h1 h2 h3 h4
      rw [HC]
      show Calls Tryz.prog 146 _ w fun e w' => e = .returned (.tuple #[.int .i64 (j4 : Int), .int .i64 (hintN (hintOf s4))]) ∧ Below w.heap.size w w'
      have hcs := hint_cases s4
      generalize hintN (hintOf s4) = hv at hcs ⊢
      have e1 : ((a + q : Nat) : Int) = (a : Int) + (q : Int) := by omega
      have e2 : ((a + q * 2 : Nat) : Int) = (a : Int) + (q : Int) * 2 := by omega
      have e3 : ((a + q * 3 : Nat) : Int) = (a : Int) + (q : Int) * 3 := by omega
      rw [e1] at c1
      rw [e2] at c2
      rw [e3] at c3
      rw [hW0] at c1
      clear e1 e2 e3 h1 h2 h3 h4 HC hc0 hf0 hH0 hH b1 b2 b3
      rcases hcs with ⟨z0, rfl⟩ | ⟨z0, z1, rfl⟩ | ⟨z0, z1, rfl⟩
      all_goals
        go_enter Tryz.func146, Tryz.ntmps146
        go_wp2_with (first | (go_at_call 169; with_reducible refine c1.mono ?_; rintro e w1 ⟨rfl, S1, _, _⟩; rw [← hW0] at S1) | (go_at_call 169; with_reducible refine (c2 _ S1).mono ?_; rintro e w2 ⟨rfl, S2, _, _⟩; replace S2 := S1.trans S2) | (go_at_call 169; with_reducible refine (c3 _ S2).mono ?_; rintro e w3 ⟨rfl, S3, _, _⟩; replace S3 := S2.trans S3) |
          (go_at_call 170; with_reducible refine (c4 _ S3).mono ?_; rintro e w4 ⟨rfl, S4, _, _⟩; replace S4 := S3.trans S4; have hcell := S4.cell))
        go_ret2
        exact ⟨rfl, END _ _ S4⟩
    · have h50z : ¬ (50 : Int) ≤ (b : Int) - (a : Int) := by omega
      obtain ⟨j4, s4, h4⟩ : ∃ x y, median ltInt d (a + q) (a + q * 2) (a + q * 3) 0 = (x, y) := ⟨_, _, rfl⟩
      have c4 := median_ blk off cap (a + q) (a + q * 2) (a + q * 3) n w.heap.size 0 d W0 hn hH0 hblk0 hne hc0 hf0 (by omega) (by omega) (by omega) (by omega) hsz
      rw [h4] at c4
      have HC := choose_mid d a b q HQ.out h8 h50 h4
      rw [HC]
      show Calls Tryz.prog 146 _ w fun e w' => e = .returned (.tuple #[.int .i64 (j4 : Int), .int .i64 (hintN (hintOf s4))]) ∧ Below w.heap.size w w'
      have hcs := hint_cases s4
      generalize hintN (hintOf s4) = hv at hcs ⊢
      have e1 : ((a + q : Nat) : Int) = (a : Int) + (q : Int) := by omega
      have e2 : ((a + q * 2 : Nat) : Int) = (a : Int) + (q : Int) * 2 := by omega
      have e3 : ((a + q * 3 : Nat) : Int) = (a : Int) + (q : Int) * 3 := by omega
      rw [e1, e2, e3, hW0] at c4
      clear e1 e2 e3 h4 HC hc0 hf0 hH0 hH
      rcases hcs with ⟨z0, rfl⟩ | ⟨z0, z1, rfl⟩ | ⟨z0, z1, rfl⟩
      all_goals
        go_enter Tryz.func146, Tryz.ntmps146
        go_wp2_with (go_at_call 170; with_reducible refine c4.mono ?_; rintro e w4 ⟨rfl, S4, _, _⟩; rw [← hW0] at S4; have hcell := S4.cell)
        go_ret2
        exact ⟨rfl, END _ _ S4⟩
  · have h8z : ¬ (8 : Int) ≤ (b : Int) - (a : Int) := by omega
    have HC := choose_small d a b q HQ.out h8
    rw [HC]
    rw [hW0] at hb0
    go_enter Tryz.func146, Tryz.ntmps146
    go_wp2_with fail
    go_ret2
    refine ⟨?_, hb0⟩
    show _ = Ending.returned (.tuple #[.int .i64 ((a + q * 2 : Nat) : Int), .int .i64 1])
    rw [show ((a + q * 2 : Nat) : Int) = (a : Int) + (q : Int) * 2 from by omega]
    rfl
end Go.Proofs.YtkbgmojomgelbaaGreat.Srt
