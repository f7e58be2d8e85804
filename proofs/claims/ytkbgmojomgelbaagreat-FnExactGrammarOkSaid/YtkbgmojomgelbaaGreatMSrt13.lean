import Derived.Test.YtkbgmojomgelbaaGreatMSrt11
import Derived.Test.YtkbgmojomgelbaaGreatMWords
import Derived.Test.YtkbgmojomgelbaaGreatWWords
import Derived.Test.YtkbgmojomgelbaaGreatWLast
import Derived.Test.YtkbgmojomgelbaaGreatWN
set_option linter.unusedVariables false
set_option linter.unusedSimpArgs false
namespace Go.Proofs.YtkbgmojomgelbaaGreat.Srt
open Go.RowKit Go.Sort Go.Proofs.YtkbgmojomgelbaaGreatW.PrintWords Go.Proofs.YtkbgmojomgelbaaGreatW.PrintLast
def msort (l : List Int) : List Int := l.mergeSort fun x y => decide (x ≤ y)
theorem sort_msort (l : List Int) : sort ltInt l.toArray = (msort l).toArray := by
  have h := sortInt l
  show sort ltInt l.toArray = (l.mergeSort fun x y => decide (x ≤ y)).toArray
  rw [← h]
theorem msort_length (l : List Int) : (msort l).length = l.length := List.length_mergeSort _
set_option maxHeartbeats 4000000 in
theorem sort_row (blk off cap n : Nat) (l : List Int) (w : World) (hn : l.length = n) (hH : Holds (Value.int .u8) w blk off l.toArray) (hblk : blk < w.heap.size) (hsz : n < 4611686018427387904) :
    Calls Tryz.prog 121 #[.slice (some ⟨blk, off, none⟩) n cap] w fun e w' => e = .returned (.tuple #[]) ∧ Rw w w' blk off (msort l).toArray := by
  have hLen : ∀ w, Calls Tryz.prog 136 #[.int .u64 (n : Int)] w fun e w' => e = .returned (.int .i64 (bitsLen n : Nat)) ∧ w' = w := fun w => by
    have h := Tryz.bits_Len (n : Int) w (by omega) (by omega)
    rwa [Int.toNat_natCast, len_is n n (Nat.le_refl _) (by omega)] at h
  have hk : bitsLen n ≤ 62 := (bitsLen_le_iff n 62).2 (by omega)
  have hp := pdqsort (n + 1) blk off cap 0 n (bitsLen n) n l.toArray w (by omega) (by simpa using hn) hH hblk (Nat.zero_le _) (Nat.le_refl _) hsz (by omega) (Or.inl rfl)
  have he : pdq ltInt l.toArray 0 n (bitsLen n) true true = (msort l).toArray := by
    rw [← sort_msort]
    unfold sort
    rw [show l.toArray.size = n from by simpa using hn]
  rw [he] at hp
  rw [show ((0 : Nat) : Int) = 0 from rfl] at hp
  go_enter Tryz.func121, Tryz.ntmps121
  go_wp2_with (first | (go_at_call 136; with_reducible refine (hLen _).mono ?_; rintro e w1 ⟨rfl, rfl⟩) | (go_at_call 135; with_reducible refine hp.mono ?_; rintro e w1 ⟨rfl, R1⟩))
  go_end0
  exact ⟨rfl, R1⟩
end Go.Proofs.YtkbgmojomgelbaaGreat.Srt
set_option linter.unusedVariables false
set_option linter.unusedSimpArgs false
namespace Go.Proofs.YtkbgmojomgelbaaGreat.Srt
open Go.RowKit Go.Sort Go.Proofs.YtkbgmojomgelbaaGreatW.PrintWords Go.Proofs.YtkbgmojomgelbaaGreatW.PrintLast
theorem own_row {w : World} {base : Nat} {P : Nat → Prop} {u : Value} {xs : List Int} (h : Kd.R (Kd.int .u8) 5 w base P u xs) : (u = .slice none 0 0 ∧ xs = []) ∨
    ∃ (g cap : Nat) (cur : Array Value), u = .slice (some ⟨g, 0, none⟩) xs.length cap ∧ base ≤ g ∧ P g ∧ Holds (Value.int .u8) w g 0 xs.toArray ∧ w.heap[g]? = some (.cells cur 5 (0, 0)) ∧ cur.size = cap ∧ xs.length ≤ cap ∧ cap ≤ maxLen := by
  have h' := h
  obtain ⟨h0, inner, ⟨ho1, ho2⟩, hr⟩ := h
  rcases ho2 with ⟨hv, hn⟩ | ⟨g, cap, cur, hv, hb, hh, hnc, hcm, hcs, ht⟩
  · exact .inl ⟨hv, List.length_eq_zero_iff.1 hn⟩
  · subst hv
    refine .inr ⟨g, cap, cur, rfl, hb, h0 g rfl, fun j hj => ?_, hh, by rw [hcs]; exact Nat.mul_one cap, hnc, hcm⟩
    have hj2 : j < xs.length := by simpa using hj
    obtain ⟨c, hcl, hM, hcell, hfr⟩ := Kd.R_elem h' (0 : Int) (j : Int) (by omega) (by omega)
    rw [Int.toNat_natCast] at hM hcell hfr
    have hc : c = [.int .u8 (xs.getD j 0)] := hM
    subst hc
    have e1 : w.cell? ⟨g, j * 1 + 0, none⟩ = some (.int .u8 (xs.getD j 0)) := hcell 0 _ rfl
    have e2 : w.frozen? ⟨g, j * 1 + 0, none⟩ = false := hfr 0
    rw [show j * 1 + 0 = 0 + j from by omega] at e1 e2
    refine ⟨?_, e2⟩
    rw [e1, List.getD_eq_getElem?_getD, List.getElem?_eq_getElem hj2, Option.getD_some]
    simp [hj2]
theorem row_own {w w' : World} {base g cap : Nat} {P : Nat → Prop} {cur : Array Value} {ys : List Int} (hR : Rw w w' g 0 ys.toArray) (hb : base ≤ g) (hP : P g) (hh : w.heap[g]? = some (.cells cur 5 (0, 0))) (hs : cur.size = cap) (hn : ys.length ≤ cap) (hc : cap ≤ maxLen) :
    Kd.R (Kd.int .u8) 5 w' base P (.slice (some ⟨g, 0, none⟩) ys.length cap) ys := by
  obtain ⟨cur', h1, h2⟩ := hR.shape cur 5 (0, 0) hh
  refine ⟨fun k hk => ?_, encs (Value.int .u8) ys, ⟨by rw [encs_length]; exact (Nat.mul_one _).symm, .inr ⟨g, cap, cur', rfl, hb, h1, hn, hc, ?_, ?_⟩⟩, Kd.reps_scalar ys⟩
  · have : g = k := by simpa [Value.ownBlock] using hk
    subst this; exact hP
  · rw [h2, hs]; exact (Nat.mul_one cap).symm
  · apply List.ext_getElem?
    intro j
    show (cur'.toList.take (ys.length * 1))[j]? = (encs (Value.int .u8) ys)[j]?
    rw [Nat.mul_one, List.getElem?_take]
    by_cases hj : j < ys.length
    · rw [if_pos hj]
      have e := (hR.holds j (by simpa using hj)).1
      rw [Nat.zero_add, cell_of_row w' g j cur' 5 (0, 0) h1] at e
      rw [Array.getElem?_toList, e]
      simp [encs, hj]
    · rw [if_neg hj, List.getElem?_eq_none (by simp [encs]; omega)]
set_option maxRecDepth 100000 in
set_option maxHeartbeats 4000000 in
theorem sort_nil (w : World) : Calls Tryz.prog 121 #[.slice none 0 0] w fun e w' => e = .returned (.tuple #[]) ∧ Below w.heap.size w w' := by
  have hLen : ∀ w, Calls Tryz.prog 136 #[.int .u64 0] w fun e w' => e = .returned (.int .i64 ((Go.Lib.bitLen 0 : Nat) : Int)) ∧ w' = w := fun w => Tryz.bits_Len 0 w (by omega) (by omega)
  have hI : ∀ w, Calls Tryz.prog 143 #[.slice none 0 0, .int .i64 0, .int .i64 0] w fun e w' => e = .returned (.tuple #[]) ∧ Below w.heap.size w w' := fun w => by
    go_enter Tryz.func143, Tryz.ntmps143
    go_wp2
    go_loopg [6] 1 (fun gg s6 wr => s6 = .int .i64 1 ∧ Aside (Below w.heap.size w wr))
    case atStart => exact ⟨rfl, Below.refl _ _⟩
    case round =>
      obtain ⟨rfl, HB⟩ := hrel
      go_wp2
      go_end0
      exact ⟨rfl, HB.out⟩
  have hP : ∀ w (k : Int), Calls Tryz.prog 135 #[.slice none 0 0, .int .i64 0, .int .i64 0, .int .i64 k] w fun e w' => e = .returned (.tuple #[]) ∧ Below w.heap.size w w' := fun w k => by
    go_enter Tryz.func135, Tryz.ntmps135
    go_wp2
    go_loopg [1, 2, 3, 8, 9] 1 (fun gg s1 s2 s3 s8 s9 wr => s1 = .int .i64 0 ∧ s2 = .int .i64 0 ∧ Aside (Below w.heap.size w wr))
    case atStart => exact ⟨rfl, rfl, Below.refl _ _⟩
    case round =>
      obtain ⟨rfl, rfl, HB⟩ := hrel
      go_wp2_with (go_at_call 143; with_reducible refine (hI _).mono ?_; rintro e w1 ⟨rfl, hb1⟩)
      (try simp only [Exit.inBlock, Exit.then]); refine bodyPost_ret (results_none rfl _ _ _) rfl ?_
      exact ⟨rfl, HB.out.trans (hb1.mono HB.out.size)⟩
  go_enter Tryz.func121, Tryz.ntmps121
  go_wp2_with (first | (go_at_call 136; with_reducible refine (hLen _).mono ?_; rintro e w1 ⟨rfl, rfl⟩) | (go_at_call 135; with_reducible refine (hP _ _).mono ?_; rintro e w1 ⟨rfl, R1⟩))
  go_end0
  exact ⟨rfl, R1⟩
theorem sort_own (P0_ : Nat → Prop) (u_ : Value) (l0 : List Int) (w0 w : World) (hB : Below w0.heap.size w0 w) (ho0 : Kd.R (Kd.int .u8) 5 w w0.heap.size P0_ u_ l0) (hl : l0.length < 4611686018427387904) :
    Calls Tryz.prog 121 #[u_] w fun e w' => e = .returned (.tuple #[]) ∧ Kd.R (Kd.int .u8) 5 w' w0.heap.size (fun k_ => (P0_ k_ ∨ w.heap.size ≤ k_)) u_ (msort l0) ∧ Below w0.heap.size w0 w' ∧ Kept w w' (fun k_ => P0_ k_) := by
  rcases own_row ho0 with ⟨rfl, rfl⟩ | ⟨g, cap, cur, rfl, hb, hP, hH, hh, hs, hn, hc⟩
  · refine (sort_nil w).mono ?_
    rintro e w' ⟨rfl, hb'⟩
    exact ⟨rfl, by rw [show msort [] = [] from by simp [msort]]; exact Kd.R_nil _ _ _ _ _, hB.trans (hb'.mono hB.size), Kept.of_below hb' _⟩
  · have hg : g < w.heap.size := by
      rcases Nat.lt_or_ge g w.heap.size with h | h
      · exact h
      · rw [Array.getElem?_eq_none h] at hh; cases hh
    refine (sort_row g 0 cap l0.length l0 w rfl hH hg hl).mono ?_
    rintro e w' ⟨rfl, R⟩
    have e : (Value.slice (some ⟨g, 0, none⟩) l0.length cap) = .slice (some ⟨g, 0, none⟩) (msort l0).length cap := by rw [msort_length]
    refine ⟨rfl, ?_, ?_, Kept.of_grown R.grown (Kept.refl w _) (fun k hk => ?_)⟩
    · rw [e]
      exact row_own R hb (.inl hP) hh hs (by rw [msort_length]; exact hn) hc
    · exact ⟨R.grown.os.trans hB.os, R.grown.tape.trans hB.tape, R.grown.output.trans hB.output, Nat.le_trans hB.size R.grown.size, fun k hk => (R.grown.block k (Nat.lt_of_lt_of_le hk hB.size) (fun e => by injection e with e; omega)).trans (hB.block k hk)⟩
    · injection hk with hk; subst hk; exact .inl hP
end Go.Proofs.YtkbgmojomgelbaaGreat.Srt
