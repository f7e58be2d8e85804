import Derived.Test.YtkbgmojomgelbaaGreatMSrt5
set_option linter.unusedVariables false
set_option linter.unusedSimpArgs false
namespace Go.Proofs.YtkbgmojomgelbaaGreat.Srt
open Go.RowKit Go.Sort
theorem pl_at (a i j i2 j2 : Nat) (d : Array Int) (h1 : scanUp (fun x => ltInt x d[a]!) d j i = i2) (h2 : scanDown (fun x => !ltInt x d[a]!) d i2 j = j2) :
    partLoop ltInt a i j d = if i2 > j2 then (j2, d) else if (j2 - 1) + 1 - (i2 + 1) < j + 1 - i then partLoop ltInt a (i2 + 1) (j2 - 1) (swp d i2 j2) else (j2, d) := by
  rw [partLoop]
  simp only [h1, h2]
  by_cases h : i2 > j2
  · rw [if_pos h, if_pos h]
  · rw [if_neg h, if_neg h]
    by_cases h3 : (j2 - 1) + 1 - (i2 + 1) < j + 1 - i
    · rw [dif_pos h3, if_pos h3]
    · rw [dif_neg h3, if_neg h3]
theorem part_at (a b pivot i2 j2 : Nat) (d : Array Int) (h1 : scanUp (fun x => ltInt x (swp d a pivot)[a]!) (swp d a pivot) (b - 1) (a + 1) = i2) (h2 : scanDown (fun x => !ltInt x (swp d a pivot)[a]!) (swp d a pivot) i2 (b - 1) = j2) :
    partition ltInt d a b pivot = if i2 > j2 then (j2, true, swp (swp d a pivot) j2 a) else ((partLoop ltInt a (i2 + 1) (j2 - 1) (swp (swp d a pivot) i2 j2)).1, false, swp (partLoop ltInt a (i2 + 1) (j2 - 1) (swp (swp d a pivot) i2 j2)).2 (partLoop ltInt a (i2 + 1) (j2 - 1) (swp (swp d a pivot) i2 j2)).1 a) := by
  unfold partition
  simp only [h1, h2]
set_option maxRecDepth 100000 in
set_option maxHeartbeats 32000000 in
theorem part (blk off cap a b pivot n : Nat) (d : Array Int) (w : World) (hn : d.size = n) (hH : Holds (Value.int .u8) w blk off d) (hblk : blk < w.heap.size) (hap : a ≤ pivot) (hpb : pivot < b) (hb : b ≤ n) (hsz : n < 4611686018427387904) :
    Calls Tryz.prog 151 #[.slice (some ⟨blk, off, none⟩) n cap, .int .i64 a, .int .i64 b, .int .i64 pivot] w fun e w' => e = .returned (.tuple #[.int .i64 ((partition ltInt d a b pivot).1 : Nat), .bool (partition ltInt d a b pivot).2.1]) ∧ Rw w w' blk off (partition ltInt d a b pivot).2.2 := by
  have R0 : Aside (Rw w w blk off d) := Rw.refl hH hblk
  clear hH
  obtain ⟨P, HP⟩ : ∃ P, Aside (P = partition ltInt d a b pivot) := ⟨_, rfl⟩
  rw [← HP.out]
  go_enter Tryz.func151, Tryz.ntmps151
  obtain ⟨G, HG⟩ : ∃ G : Nat → Int, Aside (∀ t, G t = d[t]!) := ⟨fun t => d[t]!, fun _ => rfl⟩
  have hcw : ∀ t, t < n → w.cell? ⟨blk, off + t, none⟩ = some (.int .u8 (G t)) := fun t ht => by rw [HG.out]; exact R0.out.cells t (by omega)
  have hfw : ∀ t, t < n → w.frozen? ⟨blk, off + t, none⟩ = false := fun t ht => R0.out.free t (by omega)
  obtain ⟨v', hy'⟩ := cell?_setCell_some (w := w) (p := ⟨blk, off + a, none⟩) (x := .int .u8 (G pivot)) (q := ⟨blk, off + pivot, none⟩) (hcw pivot (by omega))
  have SW : Aside (Rw w ((w.setCell ⟨blk, off + a, none⟩ (.int .u8 (G pivot))).setCell ⟨blk, off + pivot, none⟩ (.int .u8 (G a))).drew blk off (swp d a pivot)) := by
    rw [HG.out, HG.out]
    exact (R0.out.swap a pivot (by omega) (by omega)).drew
  go_wp2
  go_region
  clear hcw hfw hy'
  generalize ((w.setCell ⟨blk, off + a, none⟩ (.int .u8 (G pivot))).setCell ⟨blk, off + pivot, none⟩ (.int .u8 (G a))).drew = W1 at SW ⊢
  clear HG
  obtain ⟨dk, HDK⟩ : ∃ dk, Aside (dk = swp d a pivot) := ⟨_, rfl⟩
  have hsk : dk.size = n := by rw [HDK.out, size_swp]; exact hn
  have RK : Aside (Rw w W1 blk off dk) := by rw [HDK.out]; exact SW.out
  clear SW
  obtain ⟨i, hI⟩ : ∃ i : Nat, i = a + 1 := ⟨_, rfl⟩
  obtain ⟨j, hJ⟩ : ∃ j : Nat, j = b - 1 := ⟨_, rfl⟩
  have hai : a + 1 ≤ i := by omega
  have hib : i ≤ b := by omega
  have hij : i ≤ j + 2 := by omega
  have haj : a ≤ j := by omega
  have hjb : j < b := by omega
  have HI : Aside (i = a + 1) := hI
  have HJ : Aside (j = b - 1) := hJ
  clear hI hJ
  go_wp2
  go_loopg [10] (b + 1) (fun gg si wr2 => ∃ i2 : Nat, si = .int .i64 i2 ∧ i ≤ i2 ∧ i2 ≤ j + 2 ∧ i2 ≤ b ∧ j + 1 - i2 ≤ gg ∧ Aside (Rw w wr2 blk off dk) ∧ Aside (scanUp (fun x => ltInt x dk[a]!) dk j i2 = scanUp (fun x => ltInt x dk[a]!) dk j i))
  case atStart => exact ⟨i, by have h_ : i = a + 1 := HI.out; congr 1; omega, Nat.le_refl _, by omega, by omega, by omega, RK.out, rfl⟩
  case round =>
    obtain ⟨i2, rfl, hii, hi2, hi2b, hg2, RK2, HU⟩ := hrel
    obtain ⟨G, HG⟩ : ∃ G : Nat → Int, Aside (∀ t, G t = dk[t]!) := ⟨fun t => dk[t]!, fun _ => rfl⟩
    have hcw : ∀ t, t < n → wr.cell? ⟨blk, off + t, none⟩ = some (.int .u8 (G t)) := fun t ht => by rw [HG.out]; exact RK2.out.cells t (by omega)
    have hfw : ∀ t, t < n → wr.frozen? ⟨blk, off + t, none⟩ = false := fun t ht => RK2.out.free t (by omega)
    by_cases hle : i2 ≤ j
    · have hlez : (i2 : Int) ≤ (j : Int) := by omega
      have hlezb : (i2 : Int) ≤ (b : Int) - 1 := by have h_ : j = b - 1 := HJ.out; omega
      go_wp2_with fail
      go_big_quiet (first | (go_at_call 149; refine Calls.quiet_of_same (less _ _ _)))
      go_wp2_with fail
      · have hL : ltInt (G i2) (G a) = true := by assumption
        go_roundg (j + 1 - (i2 + 1))
        case measure => omega
        case rel =>
          exact ⟨i2 + 1, by go_num, by omega, by omega, by omega, Nat.le_refl _, RK2.out.drewN _, by show scanUp _ _ _ _ = _; rw [← HU.out]; exact (up_go _ _ _ _ hle (by rw [HG.out, HG.out] at hL; exact hL)).symm⟩
      · have hL : ltInt (G i2) (G a) = false := by assumption
        have UP : Aside (scanUp (fun x => ltInt x dk[a]!) dk j i = i2) := by
          show scanUp (fun x => ltInt x dk[a]!) dk j i = i2
          rw [← HU.out]; exact up_stop _ _ _ _ (Or.inr (by rw [HG.out, HG.out] at hL; exact hL))
        revert nq; intro nq2
        have RK2b : Aside (Rw w (wr.drewN nq2) blk off dk) := RK2.out.drewN _
        clear hcw hfw HG
        generalize wr.drewN nq2 = wr2b at RK2b ⊢
        go_wp2_with fail
        go_loopg [11] (b + 1) (fun gg sj wr3 => ∃ j2 : Nat, sj = .int .i64 j2 ∧ j2 ≤ j ∧ a ≤ j2 ∧ i2 ≤ j2 + 2 ∧ j2 + 1 - i2 ≤ gg ∧ Aside (Rw w wr3 blk off dk) ∧ Aside (scanDown (fun x => !ltInt x dk[a]!) dk i2 j2 = scanDown (fun x => !ltInt x dk[a]!) dk i2 j))
        case atStart => exact ⟨j, by have h_ : j = b - 1 := HJ.out; congr 1; omega, Nat.le_refl _, by omega, by omega, by omega, RK2b.out, rfl⟩
        case round =>
          obtain ⟨j2, rfl, hjj, haj2, hi3, hg3, RK3, HD⟩ := hrel
          obtain ⟨G, HG⟩ : ∃ G : Nat → Int, Aside (∀ t, G t = dk[t]!) := ⟨fun t => dk[t]!, fun _ => rfl⟩
          have hcw : ∀ t, t < n → wr.cell? ⟨blk, off + t, none⟩ = some (.int .u8 (G t)) := fun t ht => by rw [HG.out]; exact RK3.out.cells t (by omega)
          have hfw : ∀ t, t < n → wr.frozen? ⟨blk, off + t, none⟩ = false := fun t ht => RK3.out.free t (by omega)
          by_cases hle2 : i2 ≤ j2
          · have hle2z : (i2 : Int) ≤ (j2 : Int) := by omega
            go_wp2_with fail
            go_big_quiet (first | (go_at_call 149; refine Calls.quiet_of_same (less _ _ _)))
            go_wp2_with fail
            · have hL : ltInt (G j2) (G a) = false := by
                have h_ : (!ltInt (G j2) (G a)) = true := by assumption
                simpa using h_
              go_roundg (j2 - 1 + 1 - i2)
              case measure => omega
              case rel =>
                exact ⟨j2 - 1, by congr 1; omega, by omega, by omega, by omega, Nat.le_refl _, RK3.out.drewN _, by show scanDown _ _ _ _ = _; rw [← HD.out]; exact (down_go _ _ _ _ (by omega) hle2 (by rw [HG.out, HG.out] at hL; simpa using hL)).symm⟩
            · have hL : ltInt (G j2) (G a) = true := by
                have h_ : (!ltInt (G j2) (G a)) = false := by assumption
                simpa using h_
              have DN : Aside (scanDown (fun x => !ltInt x dk[a]!) dk i2 j = j2) := by
                show scanDown (fun x => !ltInt x dk[a]!) dk i2 j = j2
                rw [← HD.out]; exact down_stop _ _ _ _ (Or.inr (by rw [HG.out, HG.out] at hL; simpa using hL))
              revert nq; intro nq4
              have RK4 : Aside (Rw w (wr.drewN nq4) blk off dk) := RK3.out.drewN _
              clear hcw hfw HG
              generalize wr.drewN nq4 = wr4 at RK4 ⊢
              have hgt : ¬ i2 > j2 := by omega
              have hgtz : ¬ (j2 : Int) < (i2 : Int) := by omega
              obtain ⟨G, HG⟩ : ∃ G : Nat → Int, Aside (∀ t, G t = dk[t]!) := ⟨fun t => dk[t]!, fun _ => rfl⟩
              have hcw : ∀ t, t < n → wr4.cell? ⟨blk, off + t, none⟩ = some (.int .u8 (G t)) := fun t ht => by rw [HG.out]; exact RK4.out.cells t (by omega)
              have hfw : ∀ t, t < n → wr4.frozen? ⟨blk, off + t, none⟩ = false := fun t ht => RK4.out.free t (by omega)
              obtain ⟨v3, hy3⟩ := cell?_setCell_some (w := wr4) (p := ⟨blk, off + i2, none⟩) (x := .int .u8 (G j2)) (q := ⟨blk, off + j2, none⟩) (hcw j2 (by omega))
              have SW2 : Aside (Rw w ((wr4.setCell ⟨blk, off + i2, none⟩ (.int .u8 (G j2))).setCell ⟨blk, off + j2, none⟩ (.int .u8 (G i2))).drew blk off (swp dk i2 j2)) := by
                rw [HG.out, HG.out]
                exact (RK4.out.swap i2 j2 (by omega) (by omega)).drew
              obtain ⟨PL, HPL⟩ : ∃ PL, Aside (partLoop ltInt a (i2 + 1) (j2 - 1) (swp dk i2 j2) = PL) := ⟨_, rfl⟩
              have HN : Aside ((PL.1, false, swp PL.2 PL.1 a) = P) := by
                show (PL.1, false, swp PL.2 PL.1 a) = P
                rw [HP.out, part_at a b pivot i2 j2 d (by rw [← HDK.out, ← HI.out, ← HJ.out]; exact UP.out) (by rw [← HDK.out, ← HJ.out]; exact DN.out), if_neg hgt, ← HPL.out, ← HDK.out]
              go_wp2_with fail
              go_region
              clear hcw hfw hy3
              generalize ((wr4.setCell ⟨blk, off + i2, none⟩ (.int .u8 (G j2))).setCell ⟨blk, off + j2, none⟩ (.int .u8 (G i2))).drew = W5 at SW2 ⊢
              clear HG
              have hsk2 : (swp dk i2 j2).size = n := by rw [size_swp]; exact hsk
              generalize swp dk i2 j2 = dk5 at SW2 HPL hsk2
              clear UP DN HU HD RK RK2 RK3 RK4 RK2b HDK
              have b1 : a + 1 ≤ i2 + 1 := by omega
              have b2 : i2 + 1 ≤ b := by omega
              have b3 : i2 + 1 ≤ (j2 - 1) + 2 := by omega
              have b4 : a ≤ j2 - 1 := by omega
              have b5 : j2 - 1 < b := by omega
              have b6 : ((j2 : Int) - 1) = ((j2 - 1 : Nat) : Int) := by omega
              go_wp2_with fail
              go_loopg [10, 11] (b + 1) (fun gg si sj wr => ∃ (i j : Nat) (dk : Array Int), si = .int .i64 i ∧ sj = .int .i64 j ∧ a + 1 ≤ i ∧ i ≤ b ∧ i ≤ j + 2 ∧ a ≤ j ∧ j < b ∧ j + 1 - i ≤ gg ∧ dk.size = n ∧ Aside (Rw w wr blk off dk) ∧ Aside (partLoop ltInt a i j dk = PL))
              case atStart => exact ⟨i2 + 1, j2 - 1, dk5, by go_num, by first | exact congrArg _ b6 | (congr 1 <;> omega), b1, b2, b3, b4, b5, by omega, hsk2, SW2.out, HPL.out⟩
              case round =>
                clear SW2 HPL hsk2 b1 b2 b3 b4 b5 b6 hle2 hle2z hlez hle hlezb
                clear hgt hgtz
                rename_i i0 j0
                obtain ⟨i, j, dk, rfl, rfl, hai, hib, hij, haj, hjb, hg, hsk, RK, HQ⟩ := hrel
                go_wp2_with fail
                go_loopg [10] (b + 1) (fun gg si wr2 => ∃ i2 : Nat, si = .int .i64 i2 ∧ i ≤ i2 ∧ i2 ≤ j + 2 ∧ i2 ≤ b ∧ j + 1 - i2 ≤ gg ∧ Aside (Rw w wr2 blk off dk) ∧ Aside (scanUp (fun x => ltInt x dk[a]!) dk j i2 = scanUp (fun x => ltInt x dk[a]!) dk j i))
                case atStart => exact ⟨i, rfl, Nat.le_refl _, by omega, by omega, by omega, RK.out, rfl⟩
                case round =>
                  obtain ⟨i2, rfl, hii, hi2, hi2b, hg2, RK2, HU⟩ := hrel
                  obtain ⟨G, HG⟩ : ∃ G : Nat → Int, Aside (∀ t, G t = dk[t]!) := ⟨fun t => dk[t]!, fun _ => rfl⟩
                  have hcw : ∀ t, t < n → wr.cell? ⟨blk, off + t, none⟩ = some (.int .u8 (G t)) := fun t ht => by rw [HG.out]; exact RK2.out.cells t (by omega)
                  have hfw : ∀ t, t < n → wr.frozen? ⟨blk, off + t, none⟩ = false := fun t ht => RK2.out.free t (by omega)
                  by_cases hle : i2 ≤ j
                  · have hlez : (i2 : Int) ≤ (j : Int) := by omega
                    go_wp2_with fail
                    go_big_quiet (first | (go_at_call 149; refine Calls.quiet_of_same (less _ _ _)))
                    go_wp2_with fail
                    · have hL : ltInt (G i2) (G a) = true := by assumption
                      go_roundg (j + 1 - (i2 + 1))
                      case measure => omega
                      case rel =>
                        exact ⟨i2 + 1, by go_num, by omega, by omega, by omega, Nat.le_refl _, RK2.out.drewN _, by show scanUp _ _ _ _ = _; rw [← HU.out]; exact (up_go _ _ _ _ hle (by rw [HG.out, HG.out] at hL; exact hL)).symm⟩
                    · have hL : ltInt (G i2) (G a) = false := by assumption
                      have UP : Aside (scanUp (fun x => ltInt x dk[a]!) dk j i = i2) := by
                        show scanUp (fun x => ltInt x dk[a]!) dk j i = i2
                        rw [← HU.out]; exact up_stop _ _ _ _ (Or.inr (by rw [HG.out, HG.out] at hL; exact hL))
                      revert nq; intro nq2
                      have RK2b : Aside (Rw w (wr.drewN nq2) blk off dk) := RK2.out.drewN _
                      clear hcw hfw HG
                      generalize wr.drewN nq2 = wr2b at RK2b ⊢
                      go_wp2_with fail
                      go_loopg [11] (b + 1) (fun gg sj wr3 => ∃ j2 : Nat, sj = .int .i64 j2 ∧ j2 ≤ j ∧ a ≤ j2 ∧ i2 ≤ j2 + 2 ∧ j2 + 1 - i2 ≤ gg ∧ Aside (Rw w wr3 blk off dk) ∧ Aside (scanDown (fun x => !ltInt x dk[a]!) dk i2 j2 = scanDown (fun x => !ltInt x dk[a]!) dk i2 j))
                      case atStart => exact ⟨j, rfl, Nat.le_refl _, by omega, by omega, by omega, RK2b.out, rfl⟩
                      case round =>
                        obtain ⟨j2, rfl, hjj, haj2, hi3, hg3, RK3, HD⟩ := hrel
                        obtain ⟨G, HG⟩ : ∃ G : Nat → Int, Aside (∀ t, G t = dk[t]!) := ⟨fun t => dk[t]!, fun _ => rfl⟩
                        have hcw : ∀ t, t < n → wr.cell? ⟨blk, off + t, none⟩ = some (.int .u8 (G t)) := fun t ht => by rw [HG.out]; exact RK3.out.cells t (by omega)
                        have hfw : ∀ t, t < n → wr.frozen? ⟨blk, off + t, none⟩ = false := fun t ht => RK3.out.free t (by omega)
                        by_cases hle2 : i2 ≤ j2
                        · have hle2z : (i2 : Int) ≤ (j2 : Int) := by omega
                          go_wp2_with fail
                          go_big_quiet (first | (go_at_call 149; refine Calls.quiet_of_same (less _ _ _)))
                          go_wp2_with fail
                          · have hL : ltInt (G j2) (G a) = false := by
                              have h_ : (!ltInt (G j2) (G a)) = true := by assumption
                              simpa using h_
                            go_roundg (j2 - 1 + 1 - i2)
                            case measure => omega
                            case rel =>
                              exact ⟨j2 - 1, by congr 1; omega, by omega, by omega, by omega, Nat.le_refl _, RK3.out.drewN _, by show scanDown _ _ _ _ = _; rw [← HD.out]; exact (down_go _ _ _ _ (by omega) hle2 (by rw [HG.out, HG.out] at hL; simpa using hL)).symm⟩
                          · have hL : ltInt (G j2) (G a) = true := by
                              have h_ : (!ltInt (G j2) (G a)) = false := by assumption
                              simpa using h_
                            have DN : Aside (scanDown (fun x => !ltInt x dk[a]!) dk i2 j = j2) := by
                              show scanDown (fun x => !ltInt x dk[a]!) dk i2 j = j2
                              rw [← HD.out]; exact down_stop _ _ _ _ (Or.inr (by rw [HG.out, HG.out] at hL; simpa using hL))
                            revert nq; intro nq4
                            have RK4 : Aside (Rw w (wr.drewN nq4) blk off dk) := RK3.out.drewN _
                            clear hcw hfw HG
                            generalize wr.drewN nq4 = wr4 at RK4 ⊢
                            have hgt : ¬ i2 > j2 := by omega
                            have hgtz : ¬ (j2 : Int) < (i2 : Int) := by omega
                            obtain ⟨G, HG⟩ : ∃ G : Nat → Int, Aside (∀ t, G t = dk[t]!) := ⟨fun t => dk[t]!, fun _ => rfl⟩
                            have hcw : ∀ t, t < n → wr4.cell? ⟨blk, off + t, none⟩ = some (.int .u8 (G t)) := fun t ht => by rw [HG.out]; exact RK4.out.cells t (by omega)
                            have hfw : ∀ t, t < n → wr4.frozen? ⟨blk, off + t, none⟩ = false := fun t ht => RK4.out.free t (by omega)
                            obtain ⟨v3, hy3⟩ := cell?_setCell_some (w := wr4) (p := ⟨blk, off + i2, none⟩) (x := .int .u8 (G j2)) (q := ⟨blk, off + j2, none⟩) (hcw j2 (by omega))
                            go_wp2_with fail
                            go_region
                            go_wp2_with fail
                            go_roundg (j2 - 1 + 1 - (i2 + 1))
                            case measure => omega
                            case rel =>
                              refine ⟨i2 + 1, j2 - 1, swp dk i2 j2, by go_num, by congr 1; omega, by omega, by omega, by omega, by omega, by omega, Nat.le_refl _, by rw [size_swp]; exact hsk, ?_, ?_⟩
                              · rw [HG.out, HG.out]
                                exact (RK4.out.drew).swap i2 j2 (by omega) (by omega)
                              · show partLoop ltInt a (i2 + 1) (j2 - 1) _ = _
                                rw [← HQ.out, pl_at a i j i2 j2 dk UP.out DN.out, if_neg hgt, if_pos (by omega)]
                        · have hle2z : decide ((i2 : Int) ≤ (j2 : Int)) = false := decide_eq_false (by omega)
                          go_wp2_with fail
                          go_big_quiet (first | (go_at_call 149; refine Calls.quiet_of_same (less _ _ _)))
                          go_wp2_with fail
                          have DN : Aside (scanDown (fun x => !ltInt x dk[a]!) dk i2 j = j2) := by
                            show scanDown (fun x => !ltInt x dk[a]!) dk i2 j = j2
                            rw [← HD.out]; exact down_stop _ _ _ _ (Or.inl hle2)
                          revert nq; intro nq4
                          have RK4 : Aside (Rw w (wr.drewN nq4) blk off dk) := RK3.out.drewN _
                          clear hcw hfw HG
                          generalize wr.drewN nq4 = wr4 at RK4 ⊢
                          have hgt : i2 > j2 := by omega
                          have hgtz : (j2 : Int) < (i2 : Int) := by omega
                          have HQ2 := HQ.out
                          rw [pl_at a i j i2 j2 dk UP.out DN.out, if_pos hgt] at HQ2
                          have HQ3 : Aside ((j2, dk) = PL) := HQ2
                          clear HQ2
                          obtain ⟨G, HG⟩ : ∃ G : Nat → Int, Aside (∀ t, G t = dk[t]!) := ⟨fun t => dk[t]!, fun _ => rfl⟩
                          have hcw : ∀ t, t < n → wr4.cell? ⟨blk, off + t, none⟩ = some (.int .u8 (G t)) := fun t ht => by rw [HG.out]; exact RK4.out.cells t (by omega)
                          have hfw : ∀ t, t < n → wr4.frozen? ⟨blk, off + t, none⟩ = false := fun t ht => RK4.out.free t (by omega)
                          obtain ⟨v3, hy3⟩ := cell?_setCell_some (w := wr4) (p := ⟨blk, off + j2, none⟩) (x := .int .u8 (G a)) (q := ⟨blk, off + a, none⟩) (hcw a (by omega))
                          go_wp2_with fail
                          go_region
                          go_wp2_with fail
                          go_ret2
                          have HN2 := HN.out
                          rw [← HQ3.out] at HN2
                          rw [← HN2]
                          refine ⟨rfl, ?_⟩
                          rw [HG.out, HG.out]
                          exact (RK4.out.drew).swap j2 a (by omega) (by omega)
                  · have hlez : decide ((i2 : Int) ≤ (j : Int)) = false := decide_eq_false (by omega)
                    go_wp2_with fail
                    go_big_quiet (first | (go_at_call 149; refine Calls.quiet_of_same (less _ _ _)))
                    go_wp2_with fail
                    have UP : Aside (scanUp (fun x => ltInt x dk[a]!) dk j i = i2) := by
                      show scanUp (fun x => ltInt x dk[a]!) dk j i = i2
                      rw [← HU.out]; exact up_stop _ _ _ _ (Or.inl hle)
                    revert nq; intro nq2
                    have RK2b : Aside (Rw w (wr.drewN nq2) blk off dk) := RK2.out.drewN _
                    clear hcw hfw HG
                    generalize wr.drewN nq2 = wr2b at RK2b ⊢
                    go_wp2_with fail
                    go_loopg [11] (b + 1) (fun gg sj wr3 => ∃ j2 : Nat, sj = .int .i64 j2 ∧ j2 ≤ j ∧ a ≤ j2 ∧ i2 ≤ j2 + 2 ∧ j2 + 1 - i2 ≤ gg ∧ Aside (Rw w wr3 blk off dk) ∧ Aside (scanDown (fun x => !ltInt x dk[a]!) dk i2 j2 = scanDown (fun x => !ltInt x dk[a]!) dk i2 j))
                    case atStart => exact ⟨j, rfl, Nat.le_refl _, by omega, by omega, by omega, RK2b.out, rfl⟩
                    case round =>
                      obtain ⟨j2, rfl, hjj, haj2, hi3, hg3, RK3, HD⟩ := hrel
                      obtain ⟨G, HG⟩ : ∃ G : Nat → Int, Aside (∀ t, G t = dk[t]!) := ⟨fun t => dk[t]!, fun _ => rfl⟩
                      have hcw : ∀ t, t < n → wr.cell? ⟨blk, off + t, none⟩ = some (.int .u8 (G t)) := fun t ht => by rw [HG.out]; exact RK3.out.cells t (by omega)
                      have hfw : ∀ t, t < n → wr.frozen? ⟨blk, off + t, none⟩ = false := fun t ht => RK3.out.free t (by omega)
                      by_cases hle2 : i2 ≤ j2
                      · exact absurd hle2 (by omega)
                      · have hle2z : decide ((i2 : Int) ≤ (j2 : Int)) = false := decide_eq_false (by omega)
                        go_wp2_with fail
                        go_big_quiet (first | (go_at_call 149; refine Calls.quiet_of_same (less _ _ _)))
                        go_wp2_with fail
                        have DN : Aside (scanDown (fun x => !ltInt x dk[a]!) dk i2 j = j2) := by
                          show scanDown (fun x => !ltInt x dk[a]!) dk i2 j = j2
                          rw [← HD.out]; exact down_stop _ _ _ _ (Or.inl hle2)
                        revert nq; intro nq4
                        have RK4 : Aside (Rw w (wr.drewN nq4) blk off dk) := RK3.out.drewN _
                        clear hcw hfw HG
                        generalize wr.drewN nq4 = wr4 at RK4 ⊢
                        have hgt : i2 > j2 := by omega
                        have hgtz : (j2 : Int) < (i2 : Int) := by omega
                        have HQ2 := HQ.out
                        rw [pl_at a i j i2 j2 dk UP.out DN.out, if_pos hgt] at HQ2
                        have HQ3 : Aside ((j2, dk) = PL) := HQ2
                        clear HQ2
                        obtain ⟨G, HG⟩ : ∃ G : Nat → Int, Aside (∀ t, G t = dk[t]!) := ⟨fun t => dk[t]!, fun _ => rfl⟩
                        have hcw : ∀ t, t < n → wr4.cell? ⟨blk, off + t, none⟩ = some (.int .u8 (G t)) := fun t ht => by rw [HG.out]; exact RK4.out.cells t (by omega)
                        have hfw : ∀ t, t < n → wr4.frozen? ⟨blk, off + t, none⟩ = false := fun t ht => RK4.out.free t (by omega)
                        obtain ⟨v3, hy3⟩ := cell?_setCell_some (w := wr4) (p := ⟨blk, off + j2, none⟩) (x := .int .u8 (G a)) (q := ⟨blk, off + a, none⟩) (hcw a (by omega))
                        go_wp2_with fail
                        go_region
                        go_wp2_with fail
                        go_ret2
                        have HN2 := HN.out
                        rw [← HQ3.out] at HN2
                        rw [← HN2]
                        refine ⟨rfl, ?_⟩
                        rw [HG.out, HG.out]
                        exact (RK4.out.drew).swap j2 a (by omega) (by omega)
          · have hle2z : decide ((i2 : Int) ≤ (j2 : Int)) = false := decide_eq_false (by omega)
            go_wp2_with fail
            go_big_quiet (first | (go_at_call 149; refine Calls.quiet_of_same (less _ _ _)))
            go_wp2_with fail
            have DN : Aside (scanDown (fun x => !ltInt x dk[a]!) dk i2 j = j2) := by
              show scanDown (fun x => !ltInt x dk[a]!) dk i2 j = j2
              rw [← HD.out]; exact down_stop _ _ _ _ (Or.inl hle2)
            revert nq; intro nq4
            have RK4 : Aside (Rw w (wr.drewN nq4) blk off dk) := RK3.out.drewN _
            clear hcw hfw HG
            generalize wr.drewN nq4 = wr4 at RK4 ⊢
            have hgt : i2 > j2 := by omega
            have hgtz : (j2 : Int) < (i2 : Int) := by omega
            obtain ⟨G, HG⟩ : ∃ G : Nat → Int, Aside (∀ t, G t = dk[t]!) := ⟨fun t => dk[t]!, fun _ => rfl⟩
            have hcw : ∀ t, t < n → wr4.cell? ⟨blk, off + t, none⟩ = some (.int .u8 (G t)) := fun t ht => by rw [HG.out]; exact RK4.out.cells t (by omega)
            have hfw : ∀ t, t < n → wr4.frozen? ⟨blk, off + t, none⟩ = false := fun t ht => RK4.out.free t (by omega)
            obtain ⟨v3, hy3⟩ := cell?_setCell_some (w := wr4) (p := ⟨blk, off + j2, none⟩) (x := .int .u8 (G a)) (q := ⟨blk, off + a, none⟩) (hcw a (by omega))
            go_wp2_with fail
            go_region
            go_wp2_with fail
            go_ret2
            have HN : (j2, true, swp dk j2 a) = P := by
              rw [HP.out, part_at a b pivot i2 j2 d (by rw [← HDK.out, ← HI.out, ← HJ.out]; exact UP.out) (by rw [← HDK.out, ← HJ.out]; exact DN.out), if_pos hgt, ← HDK.out]
            rw [← HN]
            refine ⟨rfl, ?_⟩
            rw [HG.out, HG.out]
            exact (RK4.out.drew).swap j2 a (by omega) (by omega)
    · have hlez : decide ((i2 : Int) ≤ (j : Int)) = false := decide_eq_false (by omega)
      have hlezb : decide ((i2 : Int) ≤ (b : Int) - 1) = false := decide_eq_false (by have h_ : j = b - 1 := HJ.out; omega)
      go_wp2_with fail
      go_big_quiet (first | (go_at_call 149; refine Calls.quiet_of_same (less _ _ _)))
      go_wp2_with fail
      have UP : Aside (scanUp (fun x => ltInt x dk[a]!) dk j i = i2) := by
        show scanUp (fun x => ltInt x dk[a]!) dk j i = i2
        rw [← HU.out]; exact up_stop _ _ _ _ (Or.inl hle)
      revert nq; intro nq2
      have RK2b : Aside (Rw w (wr.drewN nq2) blk off dk) := RK2.out.drewN _
      clear hcw hfw HG
      generalize wr.drewN nq2 = wr2b at RK2b ⊢
      go_wp2_with fail
      go_loopg [11] (b + 1) (fun gg sj wr3 => ∃ j2 : Nat, sj = .int .i64 j2 ∧ j2 ≤ j ∧ a ≤ j2 ∧ i2 ≤ j2 + 2 ∧ j2 + 1 - i2 ≤ gg ∧ Aside (Rw w wr3 blk off dk) ∧ Aside (scanDown (fun x => !ltInt x dk[a]!) dk i2 j2 = scanDown (fun x => !ltInt x dk[a]!) dk i2 j))
      case atStart => exact ⟨j, by have h_ : j = b - 1 := HJ.out; congr 1; omega, Nat.le_refl _, by omega, by omega, by omega, RK2b.out, rfl⟩
      case round =>
        obtain ⟨j2, rfl, hjj, haj2, hi3, hg3, RK3, HD⟩ := hrel
        obtain ⟨G, HG⟩ : ∃ G : Nat → Int, Aside (∀ t, G t = dk[t]!) := ⟨fun t => dk[t]!, fun _ => rfl⟩
        have hcw : ∀ t, t < n → wr.cell? ⟨blk, off + t, none⟩ = some (.int .u8 (G t)) := fun t ht => by rw [HG.out]; exact RK3.out.cells t (by omega)
        have hfw : ∀ t, t < n → wr.frozen? ⟨blk, off + t, none⟩ = false := fun t ht => RK3.out.free t (by omega)
        by_cases hle2 : i2 ≤ j2
        · exact absurd hle2 (by omega)
        · have hle2z : decide ((i2 : Int) ≤ (j2 : Int)) = false := decide_eq_false (by omega)
          go_wp2_with fail
          go_big_quiet (first | (go_at_call 149; refine Calls.quiet_of_same (less _ _ _)))
          go_wp2_with fail
          have DN : Aside (scanDown (fun x => !ltInt x dk[a]!) dk i2 j = j2) := by
            show scanDown (fun x => !ltInt x dk[a]!) dk i2 j = j2
            rw [← HD.out]; exact down_stop _ _ _ _ (Or.inl hle2)
          revert nq; intro nq4
          have RK4 : Aside (Rw w (wr.drewN nq4) blk off dk) := RK3.out.drewN _
          clear hcw hfw HG
          generalize wr.drewN nq4 = wr4 at RK4 ⊢
          have hgt : i2 > j2 := by omega
          have hgtz : (j2 : Int) < (i2 : Int) := by omega
          obtain ⟨G, HG⟩ : ∃ G : Nat → Int, Aside (∀ t, G t = dk[t]!) := ⟨fun t => dk[t]!, fun _ => rfl⟩
          have hcw : ∀ t, t < n → wr4.cell? ⟨blk, off + t, none⟩ = some (.int .u8 (G t)) := fun t ht => by rw [HG.out]; exact RK4.out.cells t (by omega)
          have hfw : ∀ t, t < n → wr4.frozen? ⟨blk, off + t, none⟩ = false := fun t ht => RK4.out.free t (by omega)
          obtain ⟨v3, hy3⟩ := cell?_setCell_some (w := wr4) (p := ⟨blk, off + j2, none⟩) (x := .int .u8 (G a)) (q := ⟨blk, off + a, none⟩) (hcw a (by omega))
          go_wp2_with fail
          go_region
          go_wp2_with fail
          go_ret2
          have HN : (j2, true, swp dk j2 a) = P := by
            rw [HP.out, part_at a b pivot i2 j2 d (by rw [← HDK.out, ← HI.out, ← HJ.out]; exact UP.out) (by rw [← HDK.out, ← HJ.out]; exact DN.out), if_pos hgt, ← HDK.out]
          rw [← HN]
          refine ⟨rfl, ?_⟩
          rw [HG.out, HG.out]
          exact (RK4.out.drew).swap j2 a (by omega) (by omega)
end Go.Proofs.YtkbgmojomgelbaaGreat.Srt
