/- slices.Sort at bytes: what it leaves is the sorted list. -/
import Derived.Test.YtbkncnlehlldeaaMSrt11
import Derived.Test.YtbkncnlehlldeaaMWords
import Derived.Test.YtbkncnlehlldeaaWWords
import Derived.Test.YtbkncnlehlldeaaWLast
import Derived.Test.YtbkncnlehlldeaaWKept
set_option linter.unusedVariables false
set_option linter.unusedSimpArgs false
namespace Go.Proofs.Ytbkncnlehlldeaa.Srt
open Go.RowKit Go.Sort Go.Proofs.YtbkncnlehlldeaaW.PrintWords Go.Proofs.YtbkncnlehlldeaaW.PrintLast
/-- A list of numbers, ascending. -/
def msort (l : List Int) : List Int := l.mergeSort fun x y => decide (x ≤ y)
theorem sort_msort (l : List Int) : sort ltInt l.toArray = (msort l).toArray := by
  have h := sortInt l
  show sort ltInt l.toArray = (l.mergeSort fun x y => decide (x ≤ y)).toArray
  rw [← h]
theorem msort_length (l : List Int) : (msort l).length = l.length := List.length_mergeSort _
set_option maxHeartbeats 4000000 in
theorem sort_row (blk off cap n : Nat) (l : List Int) (w : World) (hn : l.length = n) (hH : Holds (Value.int .u8) w blk off l.toArray) (hblk : blk < w.heap.size) (hsz : n < 4611686018427387904) :
    Calls Try.prog 36 #[.slice (some ⟨blk, off, none⟩) n cap] w fun e w' => e = .returned (.tuple #[]) ∧ Rw w w' blk off (msort l).toArray := by
  have hLen : ∀ w, Calls Try.prog 50 #[.int .u64 (n : Int)] w fun e w' => e = .returned (.int .i64 (bitsLen n : Nat)) ∧ w' = w := fun w => by
    have h := Try.bits_Len (n : Int) w (by omega) (by omega)
    rwa [Int.toNat_natCast, len_is n n (Nat.le_refl _) (by omega)] at h
  have hk : bitsLen n ≤ 62 := (bitsLen_le_iff n 62).2 (by omega)
  have hp := pdqsort (n + 1) blk off cap 0 n (bitsLen n) n l.toArray w (by omega) (by simpa using hn) hH hblk (Nat.zero_le _) (Nat.le_refl _) hsz (by omega) (Or.inl rfl)
  have he : pdq ltInt l.toArray 0 n (bitsLen n) true true = (msort l).toArray := by
    rw [← sort_msort]
    unfold sort
    rw [show l.toArray.size = n from by simpa using hn]
  rw [he] at hp
  rw [show ((0 : Nat) : Int) = 0 from rfl] at hp
  go_enter Try.func36, Try.ntmps36
  go_wp2_with (first | (go_at_call 50; with_reducible refine (hLen _).mono ?_; rintro e w1 ⟨rfl, rfl⟩) | (go_at_call 49; with_reducible refine hp.mono ?_; rintro e w1 ⟨rfl, R1⟩))
  go_end0
  exact ⟨rfl, R1⟩
end Go.Proofs.Ytbkncnlehlldeaa.Srt
