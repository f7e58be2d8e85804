import Derived.Test.YtkbgmojomgelbaaGreatMSrt1
set_option linter.unusedVariables false
set_option linter.unusedSimpArgs false
namespace Go.Proofs.YtkbgmojomgelbaaGreat.Srt
open Go.RowKit Go.Sort
def Kid (hi first root : Nat) (d : Array Int) (c : Nat) : Prop := (c = 2 * root + 2 ∧ 2 * root + 1 + 1 < hi ∧ ltInt d[first + (2 * root + 1)]! d[first + (2 * root + 1) + 1]! = true) ∨
  (c = 2 * root + 1 ∧ (2 * root + 1 + 1 < hi → ltInt d[first + (2 * root + 1)]! d[first + (2 * root + 1) + 1]! = false))
theorem sift_at {hi first : Nat} (root : Nat) (d : Array Int) (h1 : ¬ 2 * root + 1 ≥ hi) {c : Nat} (hc : Kid hi first root d c) :
    siftDown ltInt hi first root d = if ltInt d[first + root]! d[first + c]! = false then d else siftDown ltInt hi first c (swp d (first + root) (first + c)) := by
  rw [siftDown, dif_neg h1]
  rcases hc with ⟨rfl, h2, h3⟩ | ⟨rfl, h2⟩
  · rw [if_pos (by simp [h2, h3])]
    by_cases h4 : ltInt d[first + root]! d[first + (2 * root + 2)]! = false
    · rw [if_pos h4, if_pos (by simp [h4])]
    · rw [if_neg h4, if_neg (by simpa using h4), dif_pos (show 2 * root + 2 < hi from h2)]
  · rw [if_neg (by
      intro h
      rw [Bool.and_eq_true] at h
      have h5 := h2 (of_decide_eq_true h.1)
      rw [h5] at h
      exact absurd h.2 (by simp))]
    by_cases h4 : ltInt d[first + root]! d[first + (2 * root + 1)]! = false
    · rw [if_pos h4, if_pos (by simp [h4])]
    · rw [if_neg h4, if_neg (by simpa using h4)]
set_option maxHeartbeats 8000000 in
theorem sift (blk off cap lo hi first : Nat) (d : Array Int) (w : World) (hH : Holds (Value.int .u8) w blk off d) (hblk : blk < w.heap.size) (hlo : lo ≤ hi) (hhi : first + hi ≤ d.size) (hsz : d.size < 4611686018427387904) :
    Calls Tryz.prog 166 #[.slice (some ⟨blk, off, none⟩) d.size cap, .int .i64 lo, .int .i64 hi, .int .i64 first] w fun e w' => e = .returned (.tuple #[]) ∧ Rw w w' blk off (siftDown ltInt hi first lo d) := by
  have R0 : Aside (Rw w w blk off d) := Rw.refl hH hblk
  clear hH
  go_enter Tryz.func166, Tryz.ntmps166
  go_wp2
  go_loopg [8] (hi + 1) (fun gg s8 wr => ∃ (root : Nat) (dk : Array Int), s8 = .int .i64 root ∧ root ≤ hi ∧ hi + 1 - root ≤ gg ∧ dk.size = d.size ∧ Aside (Rw w wr blk off dk) ∧ Aside (siftDown ltInt hi first root dk = siftDown ltInt hi first lo d))
  case atStart => exact ⟨lo, d, rfl, hlo, by omega, rfl, R0.out, rfl⟩
  case round =>
    obtain ⟨root, dk, rfl, hrd, hg, hsk, RK, HS⟩ := hrel
    obtain ⟨G, HG⟩ : ∃ G : Nat → Int, Aside (∀ t, G t = dk[t]!) := ⟨fun t => dk[t]!, fun _ => rfl⟩
    have hcw : ∀ t, t < d.size → wr.cell? ⟨blk, off + t, none⟩ = some (.int .u8 (G t)) := fun t ht => by rw [HG.out]; exact RK.out.cells t (by omega)
    have hfw : ∀ t, t < d.size → wr.frozen? ⟨blk, off + t, none⟩ = false := fun t ht => RK.out.free t (by omega)
    by_cases h1 : 2 * root + 1 ≥ hi
    · have h1z : (hi : Int) ≤ 2 * (root : Int) + 1 := by omega
      go_wp2
      go_end0
      refine ⟨rfl, ?_⟩
      rw [← HS.out, siftDown, dif_pos h1]
      exact RK.out
    · have h0z : ¬ ((hi : Int) ≤ 2 * (root : Int) + 1) := by omega
      by_cases h2 : 2 * root + 1 + 1 < hi
      · have h1z : 2 * (root : Int) + 1 + 1 < (hi : Int) := by omega
        go_wp2_with fail
        go_big_quiet (first | (go_at_call 149; refine Calls.quiet_of_same (less _ _ _)))
        go_wp2_with fail
        · have hL : ltInt (G (first + 2 * root + 1)) (G (first + 2 * root + 2)) = true := by assumption
          have KID : Aside (Kid hi first root dk (2 * root + 2)) := .inl ⟨rfl, h2, by rw [HG.out, HG.out] at hL; simpa [Nat.add_assoc] using hL⟩
          revert nq; intro nq1
          have hcw2 : ∀ t, t < d.size → (wr.drewN nq1).cell? ⟨blk, off + t, none⟩ = some (.int .u8 (G t)) := hcw
          have hfw2 : ∀ t, t < d.size → (wr.drewN nq1).frozen? ⟨blk, off + t, none⟩ = false := hfw
          have RK2 : Aside (Rw w (wr.drewN nq1) blk off dk) := RK.out.drewN _
          clear hcw hfw RK
          generalize wr.drewN nq1 = wr2 at hcw2 hfw2 RK2 ⊢
          go_big_quiet (first | (go_at_call 149; refine Calls.quiet_of_same (less _ _ _)))
          go_wp2_with fail
          · have hS : ltInt (G (first + root)) (G (first + 2 * root + 2)) = false := by
              have h_ : (!ltInt (G (first + root)) (G (first + 2 * root + 2))) = true := by assumption
              simpa using h_
            (try simp only [Exit.inBlock, Exit.then]); refine bodyPost_ret (results_none rfl _ _ _) rfl ?_
            refine ⟨rfl, ?_⟩
            rw [← HS.out, sift_at root dk h1 KID.out, if_pos (by rw [HG.out, HG.out] at hS; simpa [Nat.add_assoc] using hS)]
            exact RK2.out.drewN _
          · have hS : ltInt (G (first + root)) (G (first + 2 * root + 2)) = true := by
              have h_ : (!ltInt (G (first + root)) (G (first + 2 * root + 2))) = false := by assumption
              simpa using h_
            revert nq; intro nq2
            have hcw3 : ∀ t, t < d.size → (wr2.drewN nq2).cell? ⟨blk, off + t, none⟩ = some (.int .u8 (G t)) := hcw2
            have hfw3 : ∀ t, t < d.size → (wr2.drewN nq2).frozen? ⟨blk, off + t, none⟩ = false := hfw2
            have RK3 : Aside (Rw w (wr2.drewN nq2) blk off dk) := RK2.out.drewN _
            clear hcw2 hfw2 RK2
            generalize wr2.drewN nq2 = wr3 at hcw3 hfw3 RK3 ⊢
            go_region
            go_wp2
            go_roundg (hi + 1 - (2 * root + 2))
            case measure => omega
            case rel =>
              refine ⟨2 * root + 2, swp dk (first + root) (first + (2 * root + 2)), by simp <;> omega, by omega, Nat.le_refl _, by rw [size_swp]; exact hsk, ?_, ?_⟩
              · have SW := RK3.out.drew.swap (first + root) (first + (2 * root + 2)) (by omega) (by omega)
                rw [← HG.out, ← HG.out] at SW
                exact SW
              · show siftDown ltInt hi first (2 * root + 2) _ = _
                rw [← HS.out, sift_at root dk h1 KID.out, if_neg (by rw [HG.out, HG.out] at hS; simpa [Nat.add_assoc] using hS)]

        · have hL : ltInt (G (first + 2 * root + 1)) (G (first + 2 * root + 2)) = false := by assumption
          have KID : Aside (Kid hi first root dk (2 * root + 1)) := .inr ⟨rfl, fun _ => by rw [HG.out, HG.out] at hL; simpa [Nat.add_assoc] using hL⟩
          revert nq; intro nq1
          have hcw2 : ∀ t, t < d.size → (wr.drewN nq1).cell? ⟨blk, off + t, none⟩ = some (.int .u8 (G t)) := hcw
          have hfw2 : ∀ t, t < d.size → (wr.drewN nq1).frozen? ⟨blk, off + t, none⟩ = false := hfw
          have RK2 : Aside (Rw w (wr.drewN nq1) blk off dk) := RK.out.drewN _
          clear hcw hfw RK
          generalize wr.drewN nq1 = wr2 at hcw2 hfw2 RK2 ⊢
          go_big_quiet (first | (go_at_call 149; refine Calls.quiet_of_same (less _ _ _)))
          go_wp2_with fail
          · have hS : ltInt (G (first + root)) (G (first + 2 * root + 1)) = false := by
              have h_ : (!ltInt (G (first + root)) (G (first + 2 * root + 1))) = true := by assumption
              simpa using h_
            (try simp only [Exit.inBlock, Exit.then]); refine bodyPost_ret (results_none rfl _ _ _) rfl ?_
            refine ⟨rfl, ?_⟩
            rw [← HS.out, sift_at root dk h1 KID.out, if_pos (by rw [HG.out, HG.out] at hS; simpa [Nat.add_assoc] using hS)]
            exact RK2.out.drewN _
          · have hS : ltInt (G (first + root)) (G (first + 2 * root + 1)) = true := by
              have h_ : (!ltInt (G (first + root)) (G (first + 2 * root + 1))) = false := by assumption
              simpa using h_
            revert nq; intro nq2
            have hcw3 : ∀ t, t < d.size → (wr2.drewN nq2).cell? ⟨blk, off + t, none⟩ = some (.int .u8 (G t)) := hcw2
            have hfw3 : ∀ t, t < d.size → (wr2.drewN nq2).frozen? ⟨blk, off + t, none⟩ = false := hfw2
            have RK3 : Aside (Rw w (wr2.drewN nq2) blk off dk) := RK2.out.drewN _
            clear hcw2 hfw2 RK2
            generalize wr2.drewN nq2 = wr3 at hcw3 hfw3 RK3 ⊢
            go_region
            go_wp2
            go_roundg (hi + 1 - (2 * root + 1))
            case measure => omega
            case rel =>
              refine ⟨2 * root + 1, swp dk (first + root) (first + (2 * root + 1)), by simp <;> omega, by omega, Nat.le_refl _, by rw [size_swp]; exact hsk, ?_, ?_⟩
              · have SW := RK3.out.drew.swap (first + root) (first + (2 * root + 1)) (by omega) (by omega)
                rw [← HG.out, ← HG.out] at SW
                exact SW
              · show siftDown ltInt hi first (2 * root + 1) _ = _
                rw [← HS.out, sift_at root dk h1 KID.out, if_neg (by rw [HG.out, HG.out] at hS; simpa [Nat.add_assoc] using hS)]

      · have h1z : decide (2 * (root : Int) + 1 + 1 < (hi : Int)) = false := decide_eq_false (by omega)
        have KID : Aside (Kid hi first root dk (2 * root + 1)) := .inr ⟨rfl, fun h => absurd h h2⟩
        go_wp2_with fail
        go_big_quiet (first | (go_at_call 149; refine Calls.quiet_of_same (less _ _ _)))
        go_wp2_with fail
        revert nq; intro nq1
        have hcw2 : ∀ t, t < d.size → (wr.drewN nq1).cell? ⟨blk, off + t, none⟩ = some (.int .u8 (G t)) := hcw
        have hfw2 : ∀ t, t < d.size → (wr.drewN nq1).frozen? ⟨blk, off + t, none⟩ = false := hfw
        have RK2 : Aside (Rw w (wr.drewN nq1) blk off dk) := RK.out.drewN _
        clear hcw hfw RK
        generalize wr.drewN nq1 = wr2 at hcw2 hfw2 RK2 ⊢
        go_big_quiet (first | (go_at_call 149; refine Calls.quiet_of_same (less _ _ _)))
        go_wp2_with fail
        · have hS : ltInt (G (first + root)) (G (first + 2 * root + 1)) = false := by
            have h_ : (!ltInt (G (first + root)) (G (first + 2 * root + 1))) = true := by assumption
            simpa using h_
          (try simp only [Exit.inBlock, Exit.then]); refine bodyPost_ret (results_none rfl _ _ _) rfl ?_
          refine ⟨rfl, ?_⟩
          rw [← HS.out, sift_at root dk h1 KID.out, if_pos (by rw [HG.out, HG.out] at hS; simpa [Nat.add_assoc] using hS)]
          exact RK2.out.drewN _
        · have hS : ltInt (G (first + root)) (G (first + 2 * root + 1)) = true := by
            have h_ : (!ltInt (G (first + root)) (G (first + 2 * root + 1))) = false := by assumption
            simpa using h_
          revert nq; intro nq2
          have hcw3 : ∀ t, t < d.size → (wr2.drewN nq2).cell? ⟨blk, off + t, none⟩ = some (.int .u8 (G t)) := hcw2
          have hfw3 : ∀ t, t < d.size → (wr2.drewN nq2).frozen? ⟨blk, off + t, none⟩ = false := hfw2
          have RK3 : Aside (Rw w (wr2.drewN nq2) blk off dk) := RK2.out.drewN _
          clear hcw2 hfw2 RK2
          generalize wr2.drewN nq2 = wr3 at hcw3 hfw3 RK3 ⊢
          go_region
          go_wp2
          go_roundg (hi + 1 - (2 * root + 1))
          case measure => omega
          case rel =>
            refine ⟨2 * root + 1, swp dk (first + root) (first + (2 * root + 1)), by simp <;> omega, by omega, Nat.le_refl _, by rw [size_swp]; exact hsk, ?_, ?_⟩
            · have SW := RK3.out.drew.swap (first + root) (first + (2 * root + 1)) (by omega) (by omega)
              rw [← HG.out, ← HG.out] at SW
              exact SW
            · show siftDown ltInt hi first (2 * root + 1) _ = _
              rw [← HS.out, sift_at root dk h1 KID.out, if_neg (by rw [HG.out, HG.out] at hS; simpa [Nat.add_assoc] using hS)]

end Go.Proofs.YtkbgmojomgelbaaGreat.Srt
