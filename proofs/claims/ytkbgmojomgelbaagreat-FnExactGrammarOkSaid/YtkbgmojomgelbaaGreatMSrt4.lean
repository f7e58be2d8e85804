import Derived.Test.YtkbgmojomgelbaaGreatMSrt3
set_option linter.unusedVariables false
set_option linter.unusedSimpArgs false
namespace Go.Proofs.YtkbgmojomgelbaaGreat.Srt
open Go.RowKit Go.Sort
theorem rev_go (i j : Nat) (d : Array Int) (h : i < j) : reverseLoop i j d = reverseLoop (i + 1) (j - 1) (swp d i j) := by rw [reverseLoop, if_pos h]
theorem rev_stop (i j : Nat) (d : Array Int) (h : ¬ i < j) : reverseLoop i j d = d := by rw [reverseLoop, if_neg h]
set_option maxHeartbeats 8000000 in
theorem reverse (blk off cap a b n : Nat) (d : Array Int) (w : World) (hn : d.size = n) (hH : Holds (Value.int .u8) w blk off d) (hblk : blk < w.heap.size) (hab : a < b) (hb : b ≤ n) (hsz : n < 4611686018427387904) :
    Calls Tryz.prog 147 #[.slice (some ⟨blk, off, none⟩) n cap, .int .i64 a, .int .i64 b] w fun e w' => e = .returned (.tuple #[]) ∧ Rw w w' blk off (reverseRange d a b) := by
  have R0 : Aside (Rw w w blk off d) := Rw.refl hH hblk
  clear hH
  go_enter Tryz.func147, Tryz.ntmps147
  go_wp2
  go_loopg [6, 7] (b + 1) (fun gg s6 s7 wr => ∃ (i j : Nat) (dk : Array Int), s6 = .int .i64 i ∧ s7 = .int .i64 j ∧ i ≤ b ∧ j < b ∧ j + 1 - i ≤ gg ∧ dk.size = n ∧ Aside (Rw w wr blk off dk) ∧ Aside (reverseLoop i j dk = reverseLoop a (b - 1) d))
  case atStart => exact ⟨a, b - 1, d, rfl, by congr 1; omega, by omega, by omega, by omega, hn, R0.out, rfl⟩
  case round =>
    obtain ⟨i, j, dk, rfl, rfl, hi, hj, hg, hsk, RK, HR⟩ := hrel
    by_cases h1 : i < j
    · have h1z : (i : Int) < (j : Int) := by omega
      obtain ⟨G, HG⟩ : ∃ G : Nat → Int, Aside (∀ t, G t = dk[t]!) := ⟨fun t => dk[t]!, fun _ => rfl⟩
      have hcw : ∀ t, t < n → wr.cell? ⟨blk, off + t, none⟩ = some (.int .u8 (G t)) := fun t ht => by rw [HG.out]; exact RK.out.cells t (by omega)
      have hfw : ∀ t, t < n → wr.frozen? ⟨blk, off + t, none⟩ = false := fun t ht => RK.out.free t (by omega)
      obtain ⟨v', hy'⟩ := cell?_setCell_some (w := wr) (p := ⟨blk, off + i, none⟩) (x := .int .u8 (G j)) (q := ⟨blk, off + j, none⟩) (hcw j (by omega))
      go_wp2
      go_region
      go_wp2
      go_roundg (j - 1 + 1 - (i + 1))
      case measure => omega
      case rel =>
        refine ⟨i + 1, j - 1, swp dk i j, by go_num, by congr 1; omega, by omega, by omega, Nat.le_refl _, by rw [size_swp]; exact hsk, ?_, ?_⟩
        · rw [HG.out, HG.out]
          exact (RK.out.drew).swap i j (by omega) (by omega)
        · show reverseLoop (i + 1) (j - 1) _ = _
          rw [← HR.out, rev_go i j dk h1]
    · have h1z : ¬ (i : Int) < (j : Int) := by omega
      go_wp2
      go_end0
      refine ⟨rfl, ?_⟩
      unfold reverseRange
      rw [← HR.out, rev_stop i j dk h1]
      exact RK.out
end Go.Proofs.YtkbgmojomgelbaaGreat.Srt
