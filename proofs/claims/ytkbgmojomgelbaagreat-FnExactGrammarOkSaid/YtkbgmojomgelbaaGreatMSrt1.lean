import Derived.Test.YtkbgmojomgelbaaGreatMSrt0
set_option linter.unusedVariables false
set_option linter.unusedSimpArgs false
namespace Go.Proofs.YtkbgmojomgelbaaGreat.Srt
open Go.RowKit Go.Sort
theorem isNaN (x : Int) (w : World) : Calls Tryz.prog 171 #[.int .u8 x] w fun e w' => e = .returned (.bool false) ∧ w' = w := by
  go_enter Tryz.func171, Tryz.ntmps171
  go_wp2
  go_ret
  exact ⟨by simp, rfl⟩
theorem less (x y : Int) (w : World) : Calls Tryz.prog 149 #[.int .u8 x, .int .u8 y] w fun e w' => e = .returned (.bool (ltInt x y)) ∧ w' = w := by
  go_enter Tryz.func149, Tryz.ntmps149
  go_wp2_with (go_at_call 171; refine (isNaN _ _).mono ?_; rintro e w' ⟨rfl, rfl⟩)
  go_ret
  exact ⟨by simp [ltInt], rfl⟩
theorem insInner_go (a j : Nat) (d : Array Int) (hj : a < j) (hl : ltInt d[j]! d[j - 1]! = true) : insInner ltInt a j d = insInner ltInt a (j - 1) (swp d j (j - 1)) := by
  obtain ⟨k, rfl⟩ : ∃ k, j = k + 1 := ⟨j - 1, by omega⟩
  rw [insInner]
  simp only [Nat.add_sub_cancel] at hl ⊢
  simp [hj, hl]
theorem insInner_stop (a j : Nat) (d : Array Int) (h : j ≤ a ∨ ltInt d[j]! d[j - 1]! = false) : insInner ltInt a j d = d := by
  cases j with
  | zero => rw [insInner]
  | succ k =>
    rw [insInner]
    simp only [Nat.add_sub_cancel] at h
    rcases h with h | h
    · simp [show ¬ k + 1 > a by omega]
    · simp [h]
theorem insOuter_go (a b i : Nat) (d : Array Int) (h : i < b) : insOuter ltInt a b i d = insOuter ltInt a b (i + 1) (insInner ltInt a i d) := by rw [insOuter, if_pos h]
theorem insOuter_stop (a b i : Nat) (d : Array Int) (h : ¬ i < b) : insOuter ltInt a b i d = d := by rw [insOuter, if_neg h]
set_option maxHeartbeats 4000000 in
theorem insertion (blk off cap a b : Nat) (d : Array Int) (w : World) (hH : Holds (Value.int .u8) w blk off d) (hblk : blk < w.heap.size) (hab : a ≤ b) (hb : b ≤ d.size) (hsz : d.size < 4611686018427387904) :
    Calls Tryz.prog 143 #[.slice (some ⟨blk, off, none⟩) d.size cap, .int .i64 a, .int .i64 b] w fun e w' => e = .returned (.tuple #[]) ∧ Rw w w' blk off (insertionSort ltInt d a b) := by
  have R0 : Aside (Rw w w blk off d) := Rw.refl hH hblk
  clear hH
  go_enter Tryz.func143, Tryz.ntmps143
  go_wp2
  go_loopg [6] (b + 1) (fun gg s6 wr => ∃ (i : Nat) (dk : Array Int), s6 = .int .i64 i ∧ a < i ∧ i ≤ b + 1 ∧ b + 1 - i ≤ gg ∧ dk.size = d.size ∧ Aside (Rw w wr blk off dk) ∧ Aside (insOuter ltInt a b i dk = insOuter ltInt a b (a + 1) d))
  case atStart => exact ⟨a + 1, d, by go_num, by omega, by omega, by omega, rfl, R0.out, rfl⟩
  case round =>
    obtain ⟨i, dk, rfl, hai, hib, hg, hsk, RK, HO⟩ := hrel
    by_cases hlt : i < b
    · go_wp2
      go_loopg [7] i (fun gg s7 wr2 => ∃ (j : Nat) (dj : Array Int), s7 = .int .i64 j ∧ a ≤ j ∧ j ≤ i ∧ j ≤ gg ∧ dj.size = d.size ∧ Aside (Rw w wr2 blk off dj) ∧ Aside (insInner ltInt a j dj = insInner ltInt a i dk))
      case atStart => exact ⟨i, dk, rfl, by omega, Nat.le_refl _, Nat.le_refl _, hsk, RK.out, rfl⟩
      case round =>
        obtain ⟨j, dj, rfl, haj, hji, hgj, hsj, RJ, HI⟩ := hrel
        obtain ⟨G, HG⟩ : ∃ G : Nat → Int, Aside (∀ t, G t = dj[t]!) := ⟨fun t => dj[t]!, fun _ => rfl⟩
        have hcw : ∀ t, t < d.size → wr.cell? ⟨blk, off + t, none⟩ = some (.int .u8 (G t)) := fun t ht => by rw [HG.out]; exact RJ.out.cells t (by omega)
        have hfw : ∀ t, t < d.size → wr.frozen? ⟨blk, off + t, none⟩ = false := fun t ht => RJ.out.free t (by omega)
        go_wp2
        by_cases hja : a < j
        · go_quiet (first | (go_at_call 149; refine Calls.quiet_of_same (less _ _ _)))
          go_wp2
          · have hl : ltInt (G j) (G (j - 1)) = true := by assumption
            go_region
            all_goals go_wp2
            go_roundg (j - 1)
            case measure => omega
            case rel =>
              refine ⟨j - 1, swp dj j (j - 1), by congr 1; omega, by omega, by omega, Nat.le_refl _, by rw [size_swp]; exact hsj, ?_, ?_⟩
              · rw [HG.out, HG.out]
                exact (RJ.out.drewN _).swap j (j - 1) (by omega) (by omega)
              · show insInner ltInt a (j - 1) _ = _
                rw [← HI.out, insInner_go a j dj hja (by rw [← HG.out, ← HG.out]; exact hl)]
          · have hl : ltInt (G j) (G (j - 1)) = false := by assumption
            go_roundg (b - i)
            case measure => omega
            case rel =>
              refine ⟨i + 1, dj, by go_num, by omega, by omega, by omega, hsj, RJ.out.drewN _, ?_⟩
              show insOuter ltInt a b (i + 1) dj = _
              rw [← HO.out, insOuter_go a b i dk hlt, ← HI.out, insInner_stop _ _ _ (Or.inr (by rw [← HG.out, ← HG.out]; exact hl))]
        · go_quiet (first | (go_at_call 149; refine Calls.quiet_of_same (less _ _ _)))
          go_wp2
          go_roundg (b - i)
          case measure => omega
          case rel =>
            refine ⟨i + 1, dj, by go_num, by omega, by omega, by omega, hsj, RJ.out.drewN _, ?_⟩
            show insOuter ltInt a b (i + 1) dj = _
            rw [← HO.out, insOuter_go a b i dk hlt, ← HI.out, insInner_stop _ _ _ (Or.inl (by omega))]
    · go_wp2
      go_end0
      refine ⟨rfl, ?_⟩
      unfold insertionSort
      rw [← HO.out, insOuter_stop a b i dk hlt]
      exact RK.out
end Go.Proofs.YtkbgmojomgelbaaGreat.Srt
