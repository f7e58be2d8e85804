import Derived.Test.YtkbgmojomgelbaaGreatMSrt2
set_option linter.unusedVariables false
set_option linter.unusedSimpArgs false
namespace Go.Proofs.YtkbgmojomgelbaaGreat.Srt
open Go.RowKit Go.Sort
theorem insertion_n (blk off cap a b n : Nat) (d : Array Int) (w : World) (hn : d.size = n) (hH : Holds (Value.int .u8) w blk off d) (hblk : blk < w.heap.size) (hab : a ≤ b) (hb : b ≤ n) (hsz : n < 4611686018427387904) :
    Calls Tryz.prog 143 #[.slice (some ⟨blk, off, none⟩) n cap, .int .i64 a, .int .i64 b] w fun e w' => e = .returned (.tuple #[]) ∧ Rw w w' blk off (insertionSort ltInt d a b) := by
  subst hn; exact insertion blk off cap a b d w hH hblk hab hb hsz
theorem sift_n (blk off cap lo hi first n : Nat) (d : Array Int) (w : World) (hn : d.size = n) (hH : Holds (Value.int .u8) w blk off d) (hblk : blk < w.heap.size) (hlo : lo ≤ hi) (hhi : first + hi ≤ n) (hsz : n < 4611686018427387904) :
    Calls Tryz.prog 166 #[.slice (some ⟨blk, off, none⟩) n cap, .int .i64 lo, .int .i64 hi, .int .i64 first] w fun e w' => e = .returned (.tuple #[]) ∧ Rw w w' blk off (siftDown ltInt hi first lo d) := by
  subst hn; exact sift blk off cap lo hi first d w hH hblk hlo hhi hsz
theorem kid_ex {hi first : Nat} (root : Nat) (d : Array Int) : ∃ c, Kid hi first root d c ∧ root < c := by
  by_cases h : 2 * root + 1 + 1 < hi ∧ ltInt d[first + (2 * root + 1)]! d[first + (2 * root + 1) + 1]! = true
  · exact ⟨2 * root + 2, .inl ⟨rfl, h.1, h.2⟩, by omega⟩
  · exact ⟨2 * root + 1, .inr ⟨rfl, fun h2 => by by_cases h3 : ltInt d[first + (2 * root + 1)]! d[first + (2 * root + 1) + 1]! = true; exact absurd ⟨h2, h3⟩ h; simpa using h3⟩, by omega⟩
theorem sift_size (hi first : Nat) (n : Nat) : ∀ (root : Nat) (d : Array Int), hi - root ≤ n → (siftDown ltInt hi first root d).size = d.size := by
  induction n with
  | zero =>
    intro root d h
    rw [siftDown, dif_pos (by omega)]
  | succ n ih =>
    intro root d h
    by_cases h1 : 2 * root + 1 ≥ hi
    · rw [siftDown, dif_pos h1]
    · obtain ⟨c, hc, hlt⟩ := kid_ex (hi := hi) (first := first) root d
      rw [sift_at root d h1 hc]
      by_cases h2 : ltInt d[first + root]! d[first + c]! = false
      · rw [if_pos h2]
      · rw [if_neg h2, ih c _ (by omega), size_swp]
theorem build_go (hi first k : Nat) (d : Array Int) : heapBuild ltInt hi first (k + 1) d = heapBuild ltInt hi first k (siftDown ltInt hi first k d) := rfl
theorem pop_go (first k : Nat) (d : Array Int) : heapPop ltInt first (k + 1) d = heapPop ltInt first k (siftDown ltInt k first 0 (swp d first (first + k))) := rfl
set_option maxHeartbeats 8000000 in
theorem heap (blk off cap a b n : Nat) (d : Array Int) (w : World) (hn : d.size = n) (hH : Holds (Value.int .u8) w blk off d) (hblk : blk < w.heap.size) (hab : a ≤ b) (hb : b ≤ n) (hsz : n < 4611686018427387904) :
    Calls Tryz.prog 144 #[.slice (some ⟨blk, off, none⟩) n cap, .int .i64 a, .int .i64 b] w fun e w' => e = .returned (.tuple #[]) ∧ Rw w w' blk off (heapSort ltInt d a b) := by
  have R0 : Aside (Rw w w blk off d) := Rw.refl hH hblk
  clear hH
  have hq : Aside (Int.tdiv ((b : Int) - (a : Int) - 1) 2 = (((b - a - 1) / 2 + 1 : Nat) : Int) - 1) := by
    show Int.tdiv ((b : Int) - (a : Int) - 1) 2 = (((b - a - 1) / 2 + 1 : Nat) : Int) - 1
    by_cases h : a = b
    · subst h
      rw [show (a : Int) - (a : Int) - 1 = -1 from by omega, show a - a - 1 = 0 from by omega]
      rfl
    · rw [Int.tdiv_eq_ediv_of_nonneg (by omega)]
      omega
  obtain ⟨K, hK⟩ : ∃ K : Nat, Aside (K = (b - a - 1) / 2 + 1) := ⟨_, rfl⟩
  have hKb : K ≤ b - a + 1 := by have h_ : K = (b - a - 1) / 2 + 1 := hK.out; omega
  go_enter Tryz.func144, Tryz.ntmps144
  go_wp2
  go_loopg [9] (K + 1) (fun gg s9 wr => ∃ (k : Nat) (dk : Array Int), s9 = .int .i64 ((k : Int) - 1) ∧ k ≤ K ∧ k + 1 ≤ gg ∧ dk.size = n ∧ Aside (Rw w wr blk off dk) ∧ Aside (heapBuild ltInt (b - a) a k dk = heapBuild ltInt (b - a) a K d))
  case atStart => exact ⟨K, d, by rw [hq.out, hK.out], Nat.le_refl _, Nat.le_refl _, hn, R0.out, rfl⟩
  case round =>
    obtain ⟨k, dk, rfl, hk, hg, hsk, RK, HB⟩ := hrel
    by_cases h1 : 1 ≤ k
    · obtain ⟨j, rfl⟩ : ∃ j, k = j + 1 := ⟨k - 1, by omega⟩
      have hj : (((j + 1 : Nat) : Int) - 1) = (j : Int) := by omega
      rw [hj]
      have hcon := sift_n blk off cap j (b - a) a n dk wr hsk RK.out.holds RK.out.ltw (by omega) (by omega) hsz
      rw [show ((b - a : Nat) : Int) = (b : Int) - (a : Int) from by omega] at hcon
      have hj0 : (0 : Int) ≤ (j : Int) := by omega
      go_wp2_with (go_at_call 166; refine hcon.mono ?_; rintro e w2 ⟨rfl, RS⟩)
      go_roundg (j + 1)
      case measure => omega
      case rel =>
        exact ⟨j, siftDown ltInt (b - a) a j dk, by first | rfl | (congr 1; omega), by omega, Nat.le_refl _, by rw [sift_size (b - a) a (b - a) j dk (by omega)]; exact hsk, RK.out.trans RS, by show heapBuild ltInt (b - a) a j _ = _; rw [← HB.out, build_go]⟩
    · obtain rfl : k = 0 := by omega
      have hneg : ¬ (0 : Int) ≤ ((0 : Nat) : Int) - 1 := by omega
      have HB2 : Aside (dk = heapBuild ltInt (b - a) a K d) := HB.out
      go_wp2
      go_loopg [10] (b - a + 1) (fun gg s10 wr => ∃ (k : Nat) (dj : Array Int), s10 = .int .i64 ((k : Int) - 1) ∧ k ≤ b - a ∧ k + 1 ≤ gg ∧ dj.size = n ∧ Aside (Rw w wr blk off dj) ∧ Aside (heapPop ltInt a k dj = heapPop ltInt a (b - a) dk))
      case atStart => exact ⟨b - a, dk, by congr 1; omega, Nat.le_refl _, Nat.le_refl _, hsk, RK.out, rfl⟩
      case round =>
        obtain ⟨k, dj, rfl, hk, hg, hsj, RJ, HP⟩ := hrel
        by_cases h1 : 1 ≤ k
        · obtain ⟨j, rfl⟩ : ∃ j, k = j + 1 := ⟨k - 1, by omega⟩
          have hj : (((j + 1 : Nat) : Int) - 1) = (j : Int) := by omega
          rw [hj]
          obtain ⟨G, HG⟩ : ∃ G : Nat → Int, Aside (∀ t, G t = dj[t]!) := ⟨fun t => dj[t]!, fun _ => rfl⟩
          have hcw : ∀ t, t < n → wr.cell? ⟨blk, off + t, none⟩ = some (.int .u8 (G t)) := fun t ht => by rw [HG.out]; exact RJ.out.cells t (by omega)
          have hfw : ∀ t, t < n → wr.frozen? ⟨blk, off + t, none⟩ = false := fun t ht => RJ.out.free t (by omega)
          have hj0 : (0 : Int) ≤ (j : Int) := by omega
          obtain ⟨v', hy'⟩ := cell?_setCell_some (w := wr) (p := ⟨blk, off + a, none⟩) (x := .int .u8 (G (a + j))) (q := ⟨blk, off + (a + j), none⟩) (hcw (a + j) (by omega))
          have SW : Aside (Rw w ((wr.setCell ⟨blk, off + a, none⟩ (.int .u8 (G (a + j)))).setCell ⟨blk, off + (a + j), none⟩ (.int .u8 (G a))).drew blk off (swp dj a (a + j))) := by
            rw [HG.out, HG.out]
            exact (RJ.out.swap a (a + j) (by omega) (by omega)).drew
          go_wp2
          go_region
          clear hcw hfw hy'
          generalize ((wr.setCell ⟨blk, off + a, none⟩ (.int .u8 (G (a + j)))).setCell ⟨blk, off + (a + j), none⟩ (.int .u8 (G a))).drew = W1 at SW ⊢
          have hcon := sift_n blk off cap 0 j a n (swp dj a (a + j)) W1 (by rw [size_swp]; exact hsj) SW.out.holds SW.out.ltw (by omega) (by omega) hsz
          rw [show ((0 : Nat) : Int) = 0 from rfl] at hcon
          go_wp2_with (go_at_call 166; refine hcon.mono ?_; rintro e w2 ⟨rfl, RS⟩)
          go_roundg (j + 1)
          case measure => omega
          case rel =>
            exact ⟨j, siftDown ltInt j a 0 (swp dj a (a + j)), by first | rfl | (congr 1; omega), by omega, Nat.le_refl _, by rw [sift_size j a j 0 _ (by omega), size_swp]; exact hsj, SW.out.trans RS, by show heapPop ltInt a j _ = _; rw [← HP.out, pop_go]⟩
        · obtain rfl : k = 0 := by omega
          have hneg : ¬ (0 : Int) ≤ ((0 : Nat) : Int) - 1 := by omega
          go_wp2
          go_end0
          refine ⟨rfl, ?_⟩
          have HP2 : dj = heapPop ltInt a (b - a) dk := HP.out
          unfold heapSort
          rw [← hK.out, ← HB2.out, ← HP2]
          exact RJ.out
end Go.Proofs.YtkbgmojomgelbaaGreat.Srt
