import Derived.Test.YtkbgmojomgelbaaGreatMSrt4
set_option linter.unusedVariables false
set_option linter.unusedSimpArgs false
namespace Go.Proofs.YtkbgmojomgelbaaGreat.Srt
open Go.RowKit Go.Sort
theorem up_go (p : Int → Bool) (d : Array Int) (j i : Nat) (h : i ≤ j) (hp : p d[i]! = true) : scanUp p d j i = scanUp p d j (i + 1) := by
  conv => lhs; rw [scanUp]
  rw [if_pos (by simp [h, hp])]
theorem up_stop (p : Int → Bool) (d : Array Int) (j i : Nat) (h : ¬ i ≤ j ∨ p d[i]! = false) : scanUp p d j i = i := by
  rw [scanUp, if_neg]
  rcases h with h | h
  · simp [h]
  · simp [h]
theorem down_go (p : Int → Bool) (d : Array Int) (i j : Nat) (h0 : 1 ≤ j) (h : i ≤ j) (hp : p d[j]! = true) : scanDown p d i j = scanDown p d i (j - 1) := by
  obtain ⟨k, rfl⟩ : ∃ k, j = k + 1 := ⟨j - 1, by omega⟩
  rw [scanDown, if_pos (by simp [h, hp])]
  rfl
theorem down_stop (p : Int → Bool) (d : Array Int) (i j : Nat) (h : ¬ i ≤ j ∨ p d[j]! = false) : scanDown p d i j = j := by
  cases j with
  | zero => rfl
  | succ k =>
    rw [scanDown, if_neg]
    rcases h with h | h
    · simp [h]
    · simp [h]
theorem peq_at (a i j i2 j2 : Nat) (d : Array Int) (h1 : scanUp (fun x => !ltInt d[a]! x) d j i = i2) (h2 : scanDown (fun x => ltInt d[a]! x) d i2 j = j2) :
    partEqLoop ltInt a i j d = if i2 > j2 then (i2, d) else if (j2 - 1) + 1 - (i2 + 1) < j + 1 - i then partEqLoop ltInt a (i2 + 1) (j2 - 1) (swp d i2 j2) else (i2, d) := by
  rw [partEqLoop]
  simp only [h1, h2]
  by_cases h : i2 > j2
  · rw [if_pos h, if_pos h]
  · rw [if_neg h, if_neg h]
    by_cases h3 : (j2 - 1) + 1 - (i2 + 1) < j + 1 - i
    · rw [dif_pos h3, if_pos h3]
    · rw [dif_neg h3, if_neg h3]
set_option maxHeartbeats 16000000 in
theorem partEq (blk off cap a b pivot n : Nat) (d : Array Int) (w : World) (hn : d.size = n) (hH : Holds (Value.int .u8) w blk off d) (hblk : blk < w.heap.size) (hap : a ≤ pivot) (hpb : pivot < b) (hb : b ≤ n) (hsz : n < 4611686018427387904) :
    Calls Tryz.prog 150 #[.slice (some ⟨blk, off, none⟩) n cap, .int .i64 a, .int .i64 b, .int .i64 pivot] w fun e w' => e = .returned (.int .i64 ((partitionEqual ltInt d a b pivot).1 : Nat)) ∧ Rw w w' blk off (partitionEqual ltInt d a b pivot).2 := by
  have R0 : Aside (Rw w w blk off d) := Rw.refl hH hblk
  clear hH
  obtain ⟨P, HP⟩ : ∃ P, Aside (P = partitionEqual ltInt d a b pivot) := ⟨_, rfl⟩
  rw [← HP.out]
  have HP2 : Aside (partEqLoop ltInt a (a + 1) (b - 1) (swp d a pivot) = P) := HP.out.symm
  go_enter Tryz.func150, Tryz.ntmps150
  obtain ⟨G, HG⟩ : ∃ G : Nat → Int, Aside (∀ t, G t = d[t]!) := ⟨fun t => d[t]!, fun _ => rfl⟩
  have hcw : ∀ t, t < n → w.cell? ⟨blk, off + t, none⟩ = some (.int .u8 (G t)) := fun t ht => by rw [HG.out]; exact R0.out.cells t (by omega)
  have hfw : ∀ t, t < n → w.frozen? ⟨blk, off + t, none⟩ = false := fun t ht => R0.out.free t (by omega)
  obtain ⟨v', hy'⟩ := cell?_setCell_some (w := w) (p := ⟨blk, off + a, none⟩) (x := .int .u8 (G pivot)) (q := ⟨blk, off + pivot, none⟩) (hcw pivot (by omega))
  have SW : Aside (Rw w ((w.setCell ⟨blk, off + a, none⟩ (.int .u8 (G pivot))).setCell ⟨blk, off + pivot, none⟩ (.int .u8 (G a))).drew blk off (swp d a pivot)) := by
    rw [HG.out, HG.out]
    exact (R0.out.swap a pivot (by omega) (by omega)).drew
  go_wp2
  go_region
  clear hcw hfw hy'
  generalize ((w.setCell ⟨blk, off + a, none⟩ (.int .u8 (G pivot))).setCell ⟨blk, off + pivot, none⟩ (.int .u8 (G a))).drew = W1 at SW ⊢
  clear HG
  go_wp2
  go_loopg [9, 10] (b + 1) (fun gg s9 s10 wr => ∃ (i j : Nat) (dk : Array Int), s9 = .int .i64 i ∧ s10 = .int .i64 j ∧ a + 1 ≤ i ∧ i ≤ b ∧ i ≤ j + 2 ∧ j < b ∧ j + 1 - i ≤ gg ∧ dk.size = n ∧ Aside (Rw w wr blk off dk) ∧ Aside (partEqLoop ltInt a i j dk = P))
  case atStart => exact ⟨a + 1, b - 1, swp d a pivot, by go_num, by congr 1; omega, by omega, by omega, by omega, by omega, by omega, by rw [size_swp]; exact hn, SW.out, HP2.out⟩
  case round =>
    obtain ⟨i, j, dk, rfl, rfl, hai, hib, hij, hjb, hg, hsk, RK, HQ⟩ := hrel
    go_wp2
    go_loopg [9] (b + 1) (fun gg s9 wr2 => ∃ i2 : Nat, s9 = .int .i64 i2 ∧ i ≤ i2 ∧ i2 ≤ j + 2 ∧ j + 1 - i2 ≤ gg ∧ Aside (Rw w wr2 blk off dk) ∧ Aside (scanUp (fun x => !ltInt dk[a]! x) dk j i2 = scanUp (fun x => !ltInt dk[a]! x) dk j i))
    case atStart => exact ⟨i, rfl, Nat.le_refl _, by omega, by omega, RK.out, rfl⟩
    case round =>
      obtain ⟨i2, rfl, hii, hi2, hg2, RK2, HU⟩ := hrel
      obtain ⟨G, HG⟩ : ∃ G : Nat → Int, Aside (∀ t, G t = dk[t]!) := ⟨fun t => dk[t]!, fun _ => rfl⟩
      have hcw : ∀ t, t < n → wr.cell? ⟨blk, off + t, none⟩ = some (.int .u8 (G t)) := fun t ht => by rw [HG.out]; exact RK2.out.cells t (by omega)
      have hfw : ∀ t, t < n → wr.frozen? ⟨blk, off + t, none⟩ = false := fun t ht => RK2.out.free t (by omega)
      by_cases hle : i2 ≤ j
      · have hlez : (i2 : Int) ≤ (j : Int) := by omega
        go_wp2_with fail
        go_big_quiet (first | (go_at_call 149; refine Calls.quiet_of_same (less _ _ _)))
        go_wp2_with fail
        · have hL : ltInt (G a) (G i2) = false := by
            have h_ : (!ltInt (G a) (G i2)) = true := by assumption
            simpa using h_
          go_roundg (j + 1 - (i2 + 1))
          case measure => omega
          case rel =>
            exact ⟨i2 + 1, by go_num, by omega, by omega, Nat.le_refl _, RK2.out.drewN _, by show scanUp _ _ _ _ = _; rw [← HU.out]; exact (up_go _ _ _ _ hle (by rw [HG.out, HG.out] at hL; simpa using hL)).symm⟩
        · have hL : ltInt (G a) (G i2) = true := by
            have h_ : (!ltInt (G a) (G i2)) = false := by assumption
            simpa using h_
          have UP : Aside (scanUp (fun x => !ltInt dk[a]! x) dk j i = i2) := by
            show scanUp (fun x => !ltInt dk[a]! x) dk j i = i2
            rw [← HU.out]; exact up_stop _ _ _ _ (Or.inr (by rw [HG.out, HG.out] at hL; simpa using hL))
          revert nq; intro nq2
          have RK2b : Aside (Rw w (wr.drewN nq2) blk off dk) := RK2.out.drewN _
          clear hcw hfw HG
          generalize wr.drewN nq2 = wr2b at RK2b ⊢
          go_wp2_with fail
          go_loopg [10] (b + 1) (fun gg s10 wr3 => ∃ j2 : Nat, s10 = .int .i64 j2 ∧ j2 ≤ j ∧ i2 ≤ j2 + 2 ∧ j2 + 1 - i2 ≤ gg ∧ Aside (Rw w wr3 blk off dk) ∧ Aside (scanDown (fun x => ltInt dk[a]! x) dk i2 j2 = scanDown (fun x => ltInt dk[a]! x) dk i2 j))
          case atStart => exact ⟨j, rfl, Nat.le_refl _, by omega, by omega, RK2b.out, rfl⟩
          case round =>
            obtain ⟨j2, rfl, hjj, hi3, hg3, RK3, HD⟩ := hrel
            obtain ⟨G, HG⟩ : ∃ G : Nat → Int, Aside (∀ t, G t = dk[t]!) := ⟨fun t => dk[t]!, fun _ => rfl⟩
            have hcw : ∀ t, t < n → wr.cell? ⟨blk, off + t, none⟩ = some (.int .u8 (G t)) := fun t ht => by rw [HG.out]; exact RK3.out.cells t (by omega)
            have hfw : ∀ t, t < n → wr.frozen? ⟨blk, off + t, none⟩ = false := fun t ht => RK3.out.free t (by omega)
            by_cases hle2 : i2 ≤ j2
            · have hle2z : (i2 : Int) ≤ (j2 : Int) := by omega
              go_wp2_with fail
              go_big_quiet (first | (go_at_call 149; refine Calls.quiet_of_same (less _ _ _)))
              go_wp2_with fail
              · have hL : ltInt (G a) (G j2) = true := by assumption
                go_roundg (j2 - 1 + 1 - i2)
                case measure => omega
                case rel =>
                  exact ⟨j2 - 1, by congr 1; omega, by omega, by omega, Nat.le_refl _, RK3.out.drewN _, by show scanDown _ _ _ _ = _; rw [← HD.out]; exact (down_go _ _ _ _ (by omega) hle2 (by rw [HG.out, HG.out] at hL; exact hL)).symm⟩
              · have hL : ltInt (G a) (G j2) = false := by assumption
                have DN : Aside (scanDown (fun x => ltInt dk[a]! x) dk i2 j = j2) := by
                  show scanDown (fun x => ltInt dk[a]! x) dk i2 j = j2
                  rw [← HD.out]; exact down_stop _ _ _ _ (Or.inr (by rw [HG.out, HG.out] at hL; exact hL))
                revert nq; intro nq4
                have RK4 : Aside (Rw w (wr.drewN nq4) blk off dk) := RK3.out.drewN _
                clear hcw hfw HG
                generalize wr.drewN nq4 = wr4 at RK4 ⊢
                have hgt : ¬ i2 > j2 := by omega
                have hgtz : ¬ (j2 : Int) < (i2 : Int) := by omega
                obtain ⟨G, HG⟩ : ∃ G : Nat → Int, Aside (∀ t, G t = dk[t]!) := ⟨fun t => dk[t]!, fun _ => rfl⟩
                have hcw : ∀ t, t < n → wr4.cell? ⟨blk, off + t, none⟩ = some (.int .u8 (G t)) := fun t ht => by rw [HG.out]; exact RK4.out.cells t (by omega)
                have hfw : ∀ t, t < n → wr4.frozen? ⟨blk, off + t, none⟩ = false := fun t ht => RK4.out.free t (by omega)
                obtain ⟨v3, hy3⟩ := cell?_setCell_some (w := wr4) (p := ⟨blk, off + i2, none⟩) (x := .int .u8 (G j2)) (q := ⟨blk, off + j2, none⟩) (hcw j2 (by omega))
                go_wp2_with fail
                go_region
                go_wp2_with fail
                go_roundg (j2 - 1 + 1 - (i2 + 1))
                case measure => omega
                case rel =>
                  refine ⟨i2 + 1, j2 - 1, swp dk i2 j2, by go_num, by congr 1; omega, by omega, by omega, by omega, by omega, Nat.le_refl _, by rw [size_swp]; exact hsk, ?_, ?_⟩
                  · rw [HG.out, HG.out]
                    exact (RK4.out.drew).swap i2 j2 (by omega) (by omega)
                  · show partEqLoop ltInt a (i2 + 1) (j2 - 1) _ = _
                    rw [← HQ.out, peq_at a i j i2 j2 dk UP.out DN.out, if_neg hgt, if_pos (by omega)]
            · have hle2z : decide ((i2 : Int) ≤ (j2 : Int)) = false := decide_eq_false (by omega)
              go_wp2_with fail
              go_big_quiet (first | (go_at_call 149; refine Calls.quiet_of_same (less _ _ _)))
              go_wp2_with fail
              have DN : Aside (scanDown (fun x => ltInt dk[a]! x) dk i2 j = j2) := by
                show scanDown (fun x => ltInt dk[a]! x) dk i2 j = j2
                rw [← HD.out]; exact down_stop _ _ _ _ (Or.inl hle2)
              revert nq; intro nq4
              have RK4 : Aside (Rw w (wr.drewN nq4) blk off dk) := RK3.out.drewN _
              clear hcw hfw HG
              generalize wr.drewN nq4 = wr4 at RK4 ⊢
              have hgt : i2 > j2 := by omega
              have hgtz : (j2 : Int) < (i2 : Int) := by omega
              go_wp2_with fail
              go_ret
              have HQ2 := HQ.out
              rw [peq_at a i j i2 j2 dk UP.out DN.out, if_pos hgt] at HQ2
              rw [← HQ2]
              exact ⟨rfl, RK4.out⟩
      · have hlez : decide ((i2 : Int) ≤ (j : Int)) = false := decide_eq_false (by omega)
        go_wp2_with fail
        go_big_quiet (first | (go_at_call 149; refine Calls.quiet_of_same (less _ _ _)))
        go_wp2_with fail
        have UP : Aside (scanUp (fun x => !ltInt dk[a]! x) dk j i = i2) := by
          show scanUp (fun x => !ltInt dk[a]! x) dk j i = i2
          rw [← HU.out]; exact up_stop _ _ _ _ (Or.inl hle)
        revert nq; intro nq2
        have RK2b : Aside (Rw w (wr.drewN nq2) blk off dk) := RK2.out.drewN _
        clear hcw hfw HG
        generalize wr.drewN nq2 = wr2b at RK2b ⊢
        go_wp2_with fail
        go_loopg [10] (b + 1) (fun gg s10 wr3 => ∃ j2 : Nat, s10 = .int .i64 j2 ∧ j2 ≤ j ∧ i2 ≤ j2 + 2 ∧ j2 + 1 - i2 ≤ gg ∧ Aside (Rw w wr3 blk off dk) ∧ Aside (scanDown (fun x => ltInt dk[a]! x) dk i2 j2 = scanDown (fun x => ltInt dk[a]! x) dk i2 j))
        case atStart => exact ⟨j, rfl, Nat.le_refl _, by omega, by omega, RK2b.out, rfl⟩
        case round =>
          obtain ⟨j2, rfl, hjj, hi3, hg3, RK3, HD⟩ := hrel
          obtain ⟨G, HG⟩ : ∃ G : Nat → Int, Aside (∀ t, G t = dk[t]!) := ⟨fun t => dk[t]!, fun _ => rfl⟩
          have hcw : ∀ t, t < n → wr.cell? ⟨blk, off + t, none⟩ = some (.int .u8 (G t)) := fun t ht => by rw [HG.out]; exact RK3.out.cells t (by omega)
          have hfw : ∀ t, t < n → wr.frozen? ⟨blk, off + t, none⟩ = false := fun t ht => RK3.out.free t (by omega)
          by_cases hle2 : i2 ≤ j2
          · exact absurd hle2 (by omega)
          · have hle2z : decide ((i2 : Int) ≤ (j2 : Int)) = false := decide_eq_false (by omega)
            go_wp2_with fail
            go_big_quiet (first | (go_at_call 149; refine Calls.quiet_of_same (less _ _ _)))
            go_wp2_with fail
            have DN : Aside (scanDown (fun x => ltInt dk[a]! x) dk i2 j = j2) := by
              show scanDown (fun x => ltInt dk[a]! x) dk i2 j = j2
              rw [← HD.out]; exact down_stop _ _ _ _ (Or.inl hle2)
            revert nq; intro nq4
            have RK4 : Aside (Rw w (wr.drewN nq4) blk off dk) := RK3.out.drewN _
            clear hcw hfw HG
            generalize wr.drewN nq4 = wr4 at RK4 ⊢
            have hgt : i2 > j2 := by omega
            have hgtz : (j2 : Int) < (i2 : Int) := by omega
            go_wp2_with fail
            go_ret
            have HQ2 := HQ.out
            rw [peq_at a i j i2 j2 dk UP.out DN.out, if_pos hgt] at HQ2
            rw [← HQ2]
            exact ⟨rfl, RK4.out⟩
end Go.Proofs.YtkbgmojomgelbaaGreat.Srt
