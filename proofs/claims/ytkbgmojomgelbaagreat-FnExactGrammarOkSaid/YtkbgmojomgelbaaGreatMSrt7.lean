import Derived.Test.YtkbgmojomgelbaaGreatMSrt6
set_option linter.unusedVariables false
set_option linter.unusedSimpArgs false
namespace Go.Proofs.YtkbgmojomgelbaaGreat.Srt
open Go.RowKit Go.Sort
theorem ss_go (b i : Nat) (d : Array Int) (h : i < b) (hl : ltInt d[i]! d[i - 1]! = false) : scanSorted ltInt d b i = scanSorted ltInt d b (i + 1) := by
  conv => lhs; rw [scanSorted]
  rw [if_pos (by simp [h, hl])]
theorem ss_stop (b i : Nat) (d : Array Int) (h : ¬ i < b ∨ ltInt d[i]! d[i - 1]! = true) : scanSorted ltInt d b i = i := by
  rw [scanSorted, if_neg]
  rcases h with h | h
  · simp [h]
  · simp [h]
theorem sd_go (j : Nat) (d : Array Int) (h : 1 ≤ j) (hl : ltInt d[j]! d[j - 1]! = true) : shiftDown ltInt j d = shiftDown ltInt (j - 1) (swp d j (j - 1)) := by
  obtain ⟨k, rfl⟩ : ∃ k, j = k + 1 := ⟨j - 1, by omega⟩
  simp only [Nat.add_sub_cancel] at hl ⊢
  rw [shiftDown, if_neg (by simp [hl])]
theorem sd_stop (j : Nat) (d : Array Int) (h : j = 0 ∨ ltInt d[j]! d[j - 1]! = false) : shiftDown ltInt j d = d := by
  cases j with
  | zero => rfl
  | succ k =>
    rcases h with h | h
    · omega
    · simp only [Nat.add_sub_cancel] at h
      rw [shiftDown, if_pos (by simp [h])]
theorem su_go (b j : Nat) (d : Array Int) (h : j < b) (hl : ltInt d[j]! d[j - 1]! = true) : shiftUp ltInt b j d = shiftUp ltInt b (j + 1) (swp d j (j - 1)) := by
  conv => lhs; rw [shiftUp]
  rw [if_pos h, if_neg (by simp [hl])]
theorem su_stop (b j : Nat) (d : Array Int) (h : ¬ j < b ∨ ltInt d[j]! d[j - 1]! = false) : shiftUp ltInt b j d = d := by
  rw [shiftUp]
  by_cases h2 : j < b
  · rcases h with h | h
    · exact absurd h2 h
    · rw [if_pos h2, if_pos (by simp [h])]
  · rw [if_neg h2]
theorem sd_size (j : Nat) : ∀ d : Array Int, (shiftDown ltInt j d).size = d.size := by
  induction j with
  | zero => intro d; rfl
  | succ j ih =>
    intro d
    rw [shiftDown]
    by_cases h : (!ltInt d[j + 1]! d[j]!) = true
    · rw [if_pos h]
    · rw [if_neg h, ih, size_swp]
theorem su_size (b m : Nat) : ∀ (j : Nat) (d : Array Int), b - j ≤ m → (shiftUp ltInt b j d).size = d.size := by
  induction m with
  | zero => intro j d h; rw [su_stop b j d (Or.inl (by omega))]
  | succ m ih =>
    intro j d h
    by_cases h2 : j < b
    · by_cases h3 : ltInt d[j]! d[j - 1]! = true
      · rw [su_go b j d h2 h3, ih _ _ (by omega), size_swp]
      · rw [su_stop b j d (Or.inr (by simpa using h3))]
    · rw [su_stop b j d (Or.inl h2)]
theorem pi_at (a b s i i2 : Nat) (d : Array Int) (h : scanSorted ltInt d b i = i2) : partialIns ltInt a b (s + 1) i d = if i2 = b then (d, true) else if b - a < 50 then (d, false) else
    partialIns ltInt a b s i2 (if b - i2 ≥ 2 then shiftUp ltInt b (i2 + 1) (if i2 - a ≥ 2 then shiftDown ltInt (i2 - 1) (swp d i2 (i2 - 1)) else swp d i2 (i2 - 1)) else (if i2 - a ≥ 2 then shiftDown ltInt (i2 - 1) (swp d i2 (i2 - 1)) else swp d i2 (i2 - 1))) := by
  rw [partialIns]
  simp only [h]
set_option maxRecDepth 100000 in
set_option maxHeartbeats 32000000 in
theorem partialIns_ (blk off cap a b n : Nat) (d : Array Int) (w : World) (hn : d.size = n) (hH : Holds (Value.int .u8) w blk off d) (hblk : blk < w.heap.size) (hab : a < b) (hb : b ≤ n) (hsz : n < 4611686018427387904) :
    Calls Tryz.prog 148 #[.slice (some ⟨blk, off, none⟩) n cap, .int .i64 a, .int .i64 b] w fun e w' => e = .returned (.bool (partialInsertionSort ltInt d a b).2) ∧ Rw w w' blk off (partialInsertionSort ltInt d a b).1 := by
  have R0 : Aside (Rw w w blk off d) := Rw.refl hH hblk
  clear hH
  obtain ⟨P, HP⟩ : ∃ P, Aside (partialIns ltInt a b 5 (a + 1) d = P) := ⟨_, rfl⟩
  have HP2 : partialInsertionSort ltInt d a b = P := HP.out
  rw [HP2]
  clear HP2
  go_enter Tryz.func148, Tryz.ntmps148
  go_wp2
  go_loopg [7, 8] 6 (fun gg s7 s8 wr => ∃ (i jj s : Nat) (dk : Array Int), s7 = .int .i64 i ∧ s8 = .int .i64 jj ∧ jj + s = 5 ∧ a + 1 ≤ i ∧ i ≤ b ∧ s ≤ gg ∧ dk.size = n ∧ Aside (Rw w wr blk off dk) ∧ Aside (partialIns ltInt a b s i dk = P))
  case atStart => exact ⟨a + 1, 0, 5, d, by go_num, rfl, rfl, Nat.le_refl _, by omega, by omega, hn, R0.out, HP.out⟩
  case round =>
    obtain ⟨i, jj, s, dk, rfl, rfl, hjs, hai, hib, hg, hsk, RK, HQ⟩ := hrel
    by_cases hs : s = 0
    · subst hs
      have hjz : ¬ (jj : Int) < 5 := by omega
      go_wp2_with fail
      go_ret
      have HQ2 : (dk, false) = P := HQ.out
      rw [← HQ2]
      exact ⟨rfl, RK.out⟩
    · obtain ⟨s, rfl⟩ : ∃ s', s = s' + 1 := ⟨s - 1, by omega⟩
      have hjz : (jj : Int) < 5 := by omega
      go_wp2_with fail
      go_loopg [7] (b + 1) (fun gg s7 wr2 => ∃ i2 : Nat, s7 = .int .i64 i2 ∧ i ≤ i2 ∧ i2 ≤ b ∧ b - i2 ≤ gg ∧ Aside (Rw w wr2 blk off dk) ∧ Aside (scanSorted ltInt dk b i2 = scanSorted ltInt dk b i))
      case atStart => exact ⟨i, rfl, Nat.le_refl _, hib, by omega, RK.out, rfl⟩
      case round =>
        obtain ⟨i2, rfl, hii, hi2b, hg2, RK2, HU⟩ := hrel
        obtain ⟨G, HG⟩ : ∃ G : Nat → Int, Aside (∀ t, G t = dk[t]!) := ⟨fun t => dk[t]!, fun _ => rfl⟩
        have hcw : ∀ t, t < n → wr.cell? ⟨blk, off + t, none⟩ = some (.int .u8 (G t)) := fun t ht => by rw [HG.out]; exact RK2.out.cells t (by omega)
        have hfw : ∀ t, t < n → wr.frozen? ⟨blk, off + t, none⟩ = false := fun t ht => RK2.out.free t (by omega)
        by_cases hle : i2 < b
        · have hlez : (i2 : Int) < (b : Int) := by omega
          have hneqb : ((i2 : Int) == (b : Int)) = false := by
            rw [beq_eq_false_iff_ne]
            omega
          by_cases h50 : b - a < 50
          · have h50z : (b : Int) - (a : Int) < 50 := by omega
            go_wp2_with fail
            go_big_quiet (first | (go_at_call 149; refine Calls.quiet_of_same (less _ _ _)))
            go_wp2_with fail
            · have hL : ltInt (G i2) (G (i2 - 1)) = false := by
                have h_ : (!ltInt (G i2) (G (i2 - 1))) = true := by assumption
                simpa using h_
              go_roundg (b - (i2 + 1))
              case measure => omega
              case rel =>
                exact ⟨i2 + 1, by go_num, by omega, by omega, Nat.le_refl _, RK2.out.drewN _, by show scanSorted _ _ _ _ = _; rw [← HU.out]; exact (ss_go _ _ _ hle (by rw [HG.out, HG.out] at hL; exact hL)).symm⟩
            · have hL : ltInt (G i2) (G (i2 - 1)) = true := by
                have h_ : (!ltInt (G i2) (G (i2 - 1))) = false := by assumption
                simpa using h_
              have UP : Aside (scanSorted ltInt dk b i = i2) := by
                show scanSorted ltInt dk b i = i2
                rw [← HU.out]; exact ss_stop _ _ _ (Or.inr (by rw [HG.out, HG.out] at hL; exact hL))
              have hneq : ¬ (i2 : Int) = (b : Int) := by omega
              revert nq; intro nq2
              have hcw3 : ∀ t, t < n → (wr.drewN nq2).cell? ⟨blk, off + t, none⟩ = some (.int .u8 (G t)) := hcw
              have hfw3 : ∀ t, t < n → (wr.drewN nq2).frozen? ⟨blk, off + t, none⟩ = false := hfw
              have RK3 : Aside (Rw w (wr.drewN nq2) blk off dk) := RK2.out.drewN _
              clear hcw hfw RK2
              generalize wr.drewN nq2 = wr2b at hcw3 hfw3 RK3 ⊢
              go_wp2_with fail
              go_ret
              have HQ2 := HQ.out
              rw [pi_at a b s i i2 dk UP.out, if_neg (by omega), if_pos h50] at HQ2
              rw [← HQ2]
              exact ⟨rfl, RK3.out⟩
          · have h50z : ¬ (b : Int) - (a : Int) < 50 := by omega
            go_wp2_with fail
            go_big_quiet (first | (go_at_call 149; refine Calls.quiet_of_same (less _ _ _)))
            go_wp2_with fail
            · have hL : ltInt (G i2) (G (i2 - 1)) = false := by
                have h_ : (!ltInt (G i2) (G (i2 - 1))) = true := by assumption
                simpa using h_
              go_roundg (b - (i2 + 1))
              case measure => omega
              case rel =>
                exact ⟨i2 + 1, by go_num, by omega, by omega, Nat.le_refl _, RK2.out.drewN _, by show scanSorted _ _ _ _ = _; rw [← HU.out]; exact (ss_go _ _ _ hle (by rw [HG.out, HG.out] at hL; exact hL)).symm⟩
            · have hL : ltInt (G i2) (G (i2 - 1)) = true := by
                have h_ : (!ltInt (G i2) (G (i2 - 1))) = false := by assumption
                simpa using h_
              have UP : Aside (scanSorted ltInt dk b i = i2) := by
                show scanSorted ltInt dk b i = i2
                rw [← HU.out]; exact ss_stop _ _ _ (Or.inr (by rw [HG.out, HG.out] at hL; exact hL))
              have hneq : ¬ (i2 : Int) = (b : Int) := by omega
              revert nq; intro nq2
              have hcw3 : ∀ t, t < n → (wr.drewN nq2).cell? ⟨blk, off + t, none⟩ = some (.int .u8 (G t)) := hcw
              have hfw3 : ∀ t, t < n → (wr.drewN nq2).frozen? ⟨blk, off + t, none⟩ = false := hfw
              have RK3 : Aside (Rw w (wr.drewN nq2) blk off dk) := RK2.out.drewN _
              clear hcw hfw RK2
              generalize wr.drewN nq2 = wr2b at hcw3 hfw3 RK3 ⊢
              obtain ⟨D2, HD2⟩ : ∃ D2, Aside (D2 = if i2 - a ≥ 2 then shiftDown ltInt (i2 - 1) (swp dk i2 (i2 - 1)) else swp dk i2 (i2 - 1)) := ⟨_, rfl⟩
              obtain ⟨D3, HD3⟩ : ∃ D3, Aside (D3 = if b - i2 ≥ 2 then shiftUp ltInt b (i2 + 1) D2 else D2) := ⟨_, rfl⟩
              have hD2 : D2.size = n := by
                rw [HD2.out]
                by_cases h_ : i2 - a ≥ 2
                · rw [if_pos h_, sd_size, size_swp]; exact hsk
                · rw [if_neg h_, size_swp]; exact hsk
              have hD3 : D3.size = n := by
                rw [HD3.out]
                by_cases h_ : b - i2 ≥ 2
                · rw [if_pos h_, su_size b b _ _ (by omega)]; exact hD2
                · rw [if_neg h_]; exact hD2
              have HN : Aside (partialIns ltInt a b s i2 D3 = P) := by
                show partialIns ltInt a b s i2 D3 = P
                rw [← HQ.out, pi_at a b s i i2 dk UP.out, if_neg (by omega), if_neg h50, HD3.out, HD2.out]
              have R5 : Aside (Rw w ((wr2b.setCell ⟨blk, off + i2, none⟩ (.int .u8 (G (i2 - 1)))).setCell ⟨blk, off + (i2 - 1), none⟩ (.int .u8 (G i2))).drew blk off (swp dk i2 (i2 - 1))) := by
                rw [HG.out, HG.out]
                exact (RK3.out.swap i2 (i2 - 1) (by omega) (by omega)).drew
              go_wp2_with fail
              go_region
              clear hcw3 hfw3 HG
              generalize ((wr2b.setCell ⟨blk, off + i2, none⟩ (.int .u8 (G (i2 - 1)))).setCell ⟨blk, off + (i2 - 1), none⟩ (.int .u8 (G i2))).drew = W5 at R5 ⊢
              clear RK3 UP HU HQ hL
              by_cases hb2 : b - i2 ≥ 2
              · have hbi : (2 : Int) ≤ (b : Int) - (i2 : Int) := by omega
                by_cases ha2 : i2 - a ≥ 2
                · have hai2 : (2 : Int) ≤ (i2 : Int) - (a : Int) := by omega
                  have e1 : (i2 : Int) - 1 = ((i2 - 1 : Nat) : Int) := by omega
                  go_wp2_with fail
                  go_loopg [9] (b + 1) (fun gg sj wr3 => ∃ (j : Nat) (dj : Array Int), sj = .int .i64 j ∧ j < i2 ∧ j ≤ gg ∧ dj.size = n ∧ Aside (Rw w wr3 blk off dj) ∧ Aside (shiftDown ltInt j dj = D2))
                  case atStart => exact ⟨i2 - 1, swp dk i2 (i2 - 1), by first | exact congrArg _ e1 | (congr 1 <;> omega), by omega, by omega, by rw [size_swp]; exact hsk, R5.out, by have e_ : D2 = (if i2 - a ≥ 2 then shiftDown ltInt (i2 - 1) (swp dk i2 (i2 - 1)) else swp dk i2 (i2 - 1)) := HD2.out; rw [if_pos ha2] at e_; exact e_.symm⟩
                  case round =>
                    clear e1
                    obtain ⟨j, dj, rfl, hji, hgj, hsj, RJ, HJ⟩ := hrel
                    obtain ⟨G, HG⟩ : ∃ G : Nat → Int, Aside (∀ t, G t = dj[t]!) := ⟨fun t => dj[t]!, fun _ => rfl⟩
                    have hcw : ∀ t, t < n → wr.cell? ⟨blk, off + t, none⟩ = some (.int .u8 (G t)) := fun t ht => by rw [HG.out]; exact RJ.out.cells t (by omega)
                    have hfw : ∀ t, t < n → wr.frozen? ⟨blk, off + t, none⟩ = false := fun t ht => RJ.out.free t (by omega)
                    by_cases hlt : 1 ≤ j
                    · have hltz : (1 : Int) ≤ (j : Int) := by omega
                      go_wp2_with fail
                      go_big_quiet (first | (go_at_call 149; refine Calls.quiet_of_same (less _ _ _)))
                      go_wp2_with fail
                      · have hL : ltInt (G j) (G (j - 1)) = false := by
                          have h_ : (!ltInt (G j) (G (j - 1))) = true := by assumption
                          simpa using h_
                        revert nq; intro nq5
                        have R6 : Aside (Rw w (wr.drewN nq5) blk off D2) := by
                          show Rw w (wr.drewN nq5) blk off D2
                          have e_ := (sd_stop j dj (Or.inr (by rw [HG.out, HG.out] at hL; exact hL))).symm.trans HJ.out
                          rw [← e_]
                          exact RJ.out.drewN _
                        generalize (wr.drewN nq5) = W6 at R6 ⊢
                        go_wp2_with fail
                        go_loopg [10] (b + 1) (fun gg sj wr3 => ∃ (j : Nat) (dj : Array Int), sj = .int .i64 j ∧ i2 + 1 ≤ j ∧ j ≤ b ∧ b - j ≤ gg ∧ dj.size = n ∧ Aside (Rw w wr3 blk off dj) ∧ Aside (shiftUp ltInt b j dj = D3))
                        case atStart => exact ⟨i2 + 1, D2, by go_num, Nat.le_refl _, by omega, by omega, hD2, R6.out, by have e_ : D3 = (if b - i2 ≥ 2 then shiftUp ltInt b (i2 + 1) D2 else D2) := HD3.out; rw [if_pos (by omega)] at e_; exact e_.symm⟩
                        case round =>
                          obtain ⟨j, dj, rfl, hij, hjb, hgj, hsj, RJ, HJ⟩ := hrel
                          obtain ⟨G, HG⟩ : ∃ G : Nat → Int, Aside (∀ t, G t = dj[t]!) := ⟨fun t => dj[t]!, fun _ => rfl⟩
                          have hcw : ∀ t, t < n → wr.cell? ⟨blk, off + t, none⟩ = some (.int .u8 (G t)) := fun t ht => by rw [HG.out]; exact RJ.out.cells t (by omega)
                          have hfw : ∀ t, t < n → wr.frozen? ⟨blk, off + t, none⟩ = false := fun t ht => RJ.out.free t (by omega)
                          by_cases hlt : j < b
                          · have hltz : (j : Int) < (b : Int) := by omega
                            go_wp2_with fail
                            go_big_quiet (first | (go_at_call 149; refine Calls.quiet_of_same (less _ _ _)))
                            go_wp2_with fail
                            · have hL : ltInt (G j) (G (j - 1)) = false := by
                                have h_ : (!ltInt (G j) (G (j - 1))) = true := by assumption
                                simpa using h_
                              go_roundg s
                              case measure => omega
                              case rel =>
                                refine ⟨i2, jj + 1, s, D3, by first | rfl | go_num, by go_num, by omega, by omega, hi2b, Nat.le_refl _, hD3, ?_, ?_⟩
                                · have e_ := (su_stop b j dj (Or.inr (by rw [HG.out, HG.out] at hL; exact hL))).symm.trans HJ.out
                                  rw [← e_]
                                  exact RJ.out.drewN _
                                · exact HN.out
                            · have hL : ltInt (G j) (G (j - 1)) = true := by
                                have h_ : (!ltInt (G j) (G (j - 1))) = false := by assumption
                                simpa using h_
                              revert nq; intro nq5
                              have hcw3 : ∀ t, t < n → (wr.drewN nq5).cell? ⟨blk, off + t, none⟩ = some (.int .u8 (G t)) := hcw
                              have hfw3 : ∀ t, t < n → (wr.drewN nq5).frozen? ⟨blk, off + t, none⟩ = false := hfw
                              have RJ2 : Aside (Rw w (wr.drewN nq5) blk off dj) := RJ.out.drewN _
                              clear hcw hfw RJ
                              generalize wr.drewN nq5 = wr5 at hcw3 hfw3 RJ2 ⊢
                              go_region
                              go_wp2_with fail
                              go_roundg (b - (j + 1))
                              case measure => omega
                              case rel =>
                                refine ⟨j + 1, swp dj j (j - 1), by go_num, by omega, by omega, Nat.le_refl _, by rw [size_swp]; exact hsj, ?_, ?_⟩
                                · rw [HG.out, HG.out]
                                  exact (RJ2.out.drew).swap j (j - 1) (by omega) (by omega)
                                · show shiftUp ltInt b (j + 1) _ = _
                                  rw [← HJ.out]; exact (su_go b j dj hlt (by rw [HG.out, HG.out] at hL; exact hL)).symm
                          · have hltz : ¬ (j : Int) < (b : Int) := by omega
                            go_wp2_with fail
                            go_roundg s
                            case measure => omega
                            case rel =>
                              refine ⟨i2, jj + 1, s, D3, by first | rfl | go_num, by go_num, by omega, by omega, hi2b, Nat.le_refl _, hD3, ?_, ?_⟩
                              · have e_ := (su_stop b j dj (Or.inl hlt)).symm.trans HJ.out
                                rw [← e_]
                                exact RJ.out
                              · exact HN.out
                      · have hL : ltInt (G j) (G (j - 1)) = true := by
                          have h_ : (!ltInt (G j) (G (j - 1))) = false := by assumption
                          simpa using h_
                        revert nq; intro nq5
                        have hcw3 : ∀ t, t < n → (wr.drewN nq5).cell? ⟨blk, off + t, none⟩ = some (.int .u8 (G t)) := hcw
                        have hfw3 : ∀ t, t < n → (wr.drewN nq5).frozen? ⟨blk, off + t, none⟩ = false := hfw
                        have RJ2 : Aside (Rw w (wr.drewN nq5) blk off dj) := RJ.out.drewN _
                        clear hcw hfw RJ
                        generalize wr.drewN nq5 = wr5 at hcw3 hfw3 RJ2 ⊢
                        go_region
                        go_wp2_with fail
                        go_roundg (j - 1)
                        case measure => omega
                        case rel =>
                          refine ⟨j - 1, swp dj j (j - 1), by congr 1; omega, by omega, Nat.le_refl _, by rw [size_swp]; exact hsj, ?_, ?_⟩
                          · rw [HG.out, HG.out]
                            exact (RJ2.out.drew).swap j (j - 1) (by omega) (by omega)
                          · show shiftDown ltInt (j - 1) _ = _
                            rw [← HJ.out]; exact (sd_go j dj hlt (by rw [HG.out, HG.out] at hL; exact hL)).symm
                    · have hltz : ¬ (1 : Int) ≤ (j : Int) := by omega
                      go_wp2_with fail
                      have R6 : Aside (Rw w wr blk off D2) := by
                        show Rw w wr blk off D2
                        have e_ := (sd_stop j dj (Or.inl (by omega))).symm.trans HJ.out
                        rw [← e_]
                        exact RJ.out
                      generalize wr = W6 at R6 ⊢
                      go_wp2_with fail
                      go_loopg [10] (b + 1) (fun gg sj wr3 => ∃ (j : Nat) (dj : Array Int), sj = .int .i64 j ∧ i2 + 1 ≤ j ∧ j ≤ b ∧ b - j ≤ gg ∧ dj.size = n ∧ Aside (Rw w wr3 blk off dj) ∧ Aside (shiftUp ltInt b j dj = D3))
                      case atStart => exact ⟨i2 + 1, D2, by go_num, Nat.le_refl _, by omega, by omega, hD2, R6.out, by have e_ : D3 = (if b - i2 ≥ 2 then shiftUp ltInt b (i2 + 1) D2 else D2) := HD3.out; rw [if_pos (by omega)] at e_; exact e_.symm⟩
                      case round =>
                        obtain ⟨j, dj, rfl, hij, hjb, hgj, hsj, RJ, HJ⟩ := hrel
                        obtain ⟨G, HG⟩ : ∃ G : Nat → Int, Aside (∀ t, G t = dj[t]!) := ⟨fun t => dj[t]!, fun _ => rfl⟩
                        have hcw : ∀ t, t < n → wr.cell? ⟨blk, off + t, none⟩ = some (.int .u8 (G t)) := fun t ht => by rw [HG.out]; exact RJ.out.cells t (by omega)
                        have hfw : ∀ t, t < n → wr.frozen? ⟨blk, off + t, none⟩ = false := fun t ht => RJ.out.free t (by omega)
                        by_cases hlt : j < b
                        · have hltz : (j : Int) < (b : Int) := by omega
                          go_wp2_with fail
                          go_big_quiet (first | (go_at_call 149; refine Calls.quiet_of_same (less _ _ _)))
                          go_wp2_with fail
                          · have hL : ltInt (G j) (G (j - 1)) = false := by
                              have h_ : (!ltInt (G j) (G (j - 1))) = true := by assumption
                              simpa using h_
                            go_roundg s
                            case measure => omega
                            case rel =>
                              refine ⟨i2, jj + 1, s, D3, by first | rfl | go_num, by go_num, by omega, by omega, hi2b, Nat.le_refl _, hD3, ?_, ?_⟩
                              · have e_ := (su_stop b j dj (Or.inr (by rw [HG.out, HG.out] at hL; exact hL))).symm.trans HJ.out
                                rw [← e_]
                                exact RJ.out.drewN _
                              · exact HN.out
                          · have hL : ltInt (G j) (G (j - 1)) = true := by
                              have h_ : (!ltInt (G j) (G (j - 1))) = false := by assumption
                              simpa using h_
                            revert nq; intro nq5
                            have hcw3 : ∀ t, t < n → (wr.drewN nq5).cell? ⟨blk, off + t, none⟩ = some (.int .u8 (G t)) := hcw
                            have hfw3 : ∀ t, t < n → (wr.drewN nq5).frozen? ⟨blk, off + t, none⟩ = false := hfw
                            have RJ2 : Aside (Rw w (wr.drewN nq5) blk off dj) := RJ.out.drewN _
                            clear hcw hfw RJ
                            generalize wr.drewN nq5 = wr5 at hcw3 hfw3 RJ2 ⊢
                            go_region
                            go_wp2_with fail
                            go_roundg (b - (j + 1))
                            case measure => omega
                            case rel =>
                              refine ⟨j + 1, swp dj j (j - 1), by go_num, by omega, by omega, Nat.le_refl _, by rw [size_swp]; exact hsj, ?_, ?_⟩
                              · rw [HG.out, HG.out]
                                exact (RJ2.out.drew).swap j (j - 1) (by omega) (by omega)
                              · show shiftUp ltInt b (j + 1) _ = _
                                rw [← HJ.out]; exact (su_go b j dj hlt (by rw [HG.out, HG.out] at hL; exact hL)).symm
                        · have hltz : ¬ (j : Int) < (b : Int) := by omega
                          go_wp2_with fail
                          go_roundg s
                          case measure => omega
                          case rel =>
                            refine ⟨i2, jj + 1, s, D3, by first | rfl | go_num, by go_num, by omega, by omega, hi2b, Nat.le_refl _, hD3, ?_, ?_⟩
                            · have e_ := (su_stop b j dj (Or.inl hlt)).symm.trans HJ.out
                              rw [← e_]
                              exact RJ.out
                            · exact HN.out
                · have hai2 : ¬ (2 : Int) ≤ (i2 : Int) - (a : Int) := by omega
                  go_wp2_with fail
                  have R6 : Aside (Rw w W5 blk off D2) := by
                    show Rw w W5 blk off D2
                    have e_ := (by have e_ : D2 = (if i2 - a ≥ 2 then shiftDown ltInt (i2 - 1) (swp dk i2 (i2 - 1)) else swp dk i2 (i2 - 1)) := HD2.out; rw [if_neg ha2] at e_; exact e_.symm : swp dk i2 (i2 - 1) = D2)
                    rw [← e_]
                    exact R5.out
                  generalize W5 = W6 at R6 ⊢
                  go_wp2_with fail
                  go_loopg [10] (b + 1) (fun gg sj wr3 => ∃ (j : Nat) (dj : Array Int), sj = .int .i64 j ∧ i2 + 1 ≤ j ∧ j ≤ b ∧ b - j ≤ gg ∧ dj.size = n ∧ Aside (Rw w wr3 blk off dj) ∧ Aside (shiftUp ltInt b j dj = D3))
                  case atStart => exact ⟨i2 + 1, D2, by go_num, Nat.le_refl _, by omega, by omega, hD2, R6.out, by have e_ : D3 = (if b - i2 ≥ 2 then shiftUp ltInt b (i2 + 1) D2 else D2) := HD3.out; rw [if_pos (by omega)] at e_; exact e_.symm⟩
                  case round =>
                    obtain ⟨j, dj, rfl, hij, hjb, hgj, hsj, RJ, HJ⟩ := hrel
                    obtain ⟨G, HG⟩ : ∃ G : Nat → Int, Aside (∀ t, G t = dj[t]!) := ⟨fun t => dj[t]!, fun _ => rfl⟩
                    have hcw : ∀ t, t < n → wr.cell? ⟨blk, off + t, none⟩ = some (.int .u8 (G t)) := fun t ht => by rw [HG.out]; exact RJ.out.cells t (by omega)
                    have hfw : ∀ t, t < n → wr.frozen? ⟨blk, off + t, none⟩ = false := fun t ht => RJ.out.free t (by omega)
                    by_cases hlt : j < b
                    · have hltz : (j : Int) < (b : Int) := by omega
                      go_wp2_with fail
                      go_big_quiet (first | (go_at_call 149; refine Calls.quiet_of_same (less _ _ _)))
                      go_wp2_with fail
                      · have hL : ltInt (G j) (G (j - 1)) = false := by
                          have h_ : (!ltInt (G j) (G (j - 1))) = true := by assumption
                          simpa using h_
                        go_roundg s
                        case measure => omega
                        case rel =>
                          refine ⟨i2, jj + 1, s, D3, by first | rfl | go_num, by go_num, by omega, by omega, hi2b, Nat.le_refl _, hD3, ?_, ?_⟩
                          · have e_ := (su_stop b j dj (Or.inr (by rw [HG.out, HG.out] at hL; exact hL))).symm.trans HJ.out
                            rw [← e_]
                            exact RJ.out.drewN _
                          · exact HN.out
                      · have hL : ltInt (G j) (G (j - 1)) = true := by
                          have h_ : (!ltInt (G j) (G (j - 1))) = false := by assumption
                          simpa using h_
                        revert nq; intro nq5
                        have hcw3 : ∀ t, t < n → (wr.drewN nq5).cell? ⟨blk, off + t, none⟩ = some (.int .u8 (G t)) := hcw
                        have hfw3 : ∀ t, t < n → (wr.drewN nq5).frozen? ⟨blk, off + t, none⟩ = false := hfw
                        have RJ2 : Aside (Rw w (wr.drewN nq5) blk off dj) := RJ.out.drewN _
                        clear hcw hfw RJ
                        generalize wr.drewN nq5 = wr5 at hcw3 hfw3 RJ2 ⊢
                        go_region
                        go_wp2_with fail
                        go_roundg (b - (j + 1))
                        case measure => omega
                        case rel =>
                          refine ⟨j + 1, swp dj j (j - 1), by go_num, by omega, by omega, Nat.le_refl _, by rw [size_swp]; exact hsj, ?_, ?_⟩
                          · rw [HG.out, HG.out]
                            exact (RJ2.out.drew).swap j (j - 1) (by omega) (by omega)
                          · show shiftUp ltInt b (j + 1) _ = _
                            rw [← HJ.out]; exact (su_go b j dj hlt (by rw [HG.out, HG.out] at hL; exact hL)).symm
                    · have hltz : ¬ (j : Int) < (b : Int) := by omega
                      go_wp2_with fail
                      go_roundg s
                      case measure => omega
                      case rel =>
                        refine ⟨i2, jj + 1, s, D3, by first | rfl | go_num, by go_num, by omega, by omega, hi2b, Nat.le_refl _, hD3, ?_, ?_⟩
                        · have e_ := (su_stop b j dj (Or.inl hlt)).symm.trans HJ.out
                          rw [← e_]
                          exact RJ.out
                        · exact HN.out
              · have hbi : ¬ (2 : Int) ≤ (b : Int) - (i2 : Int) := by omega
                by_cases ha2 : i2 - a ≥ 2
                · have hai2 : (2 : Int) ≤ (i2 : Int) - (a : Int) := by omega
                  have e1 : (i2 : Int) - 1 = ((i2 - 1 : Nat) : Int) := by omega
                  go_wp2_with fail
                  go_loopg [9] (b + 1) (fun gg sj wr3 => ∃ (j : Nat) (dj : Array Int), sj = .int .i64 j ∧ j < i2 ∧ j ≤ gg ∧ dj.size = n ∧ Aside (Rw w wr3 blk off dj) ∧ Aside (shiftDown ltInt j dj = D2))
                  case atStart => exact ⟨i2 - 1, swp dk i2 (i2 - 1), by first | exact congrArg _ e1 | (congr 1 <;> omega), by omega, by omega, by rw [size_swp]; exact hsk, R5.out, by have e_ : D2 = (if i2 - a ≥ 2 then shiftDown ltInt (i2 - 1) (swp dk i2 (i2 - 1)) else swp dk i2 (i2 - 1)) := HD2.out; rw [if_pos ha2] at e_; exact e_.symm⟩
                  case round =>
                    clear e1
                    obtain ⟨j, dj, rfl, hji, hgj, hsj, RJ, HJ⟩ := hrel
                    obtain ⟨G, HG⟩ : ∃ G : Nat → Int, Aside (∀ t, G t = dj[t]!) := ⟨fun t => dj[t]!, fun _ => rfl⟩
                    have hcw : ∀ t, t < n → wr.cell? ⟨blk, off + t, none⟩ = some (.int .u8 (G t)) := fun t ht => by rw [HG.out]; exact RJ.out.cells t (by omega)
                    have hfw : ∀ t, t < n → wr.frozen? ⟨blk, off + t, none⟩ = false := fun t ht => RJ.out.free t (by omega)
                    by_cases hlt : 1 ≤ j
                    · have hltz : (1 : Int) ≤ (j : Int) := by omega
                      go_wp2_with fail
                      go_big_quiet (first | (go_at_call 149; refine Calls.quiet_of_same (less _ _ _)))
                      go_wp2_with fail
                      · have hL : ltInt (G j) (G (j - 1)) = false := by
                          have h_ : (!ltInt (G j) (G (j - 1))) = true := by assumption
                          simpa using h_
                        revert nq; intro nq5
                        have R6 : Aside (Rw w (wr.drewN nq5) blk off D2) := by
                          show Rw w (wr.drewN nq5) blk off D2
                          have e_ := (sd_stop j dj (Or.inr (by rw [HG.out, HG.out] at hL; exact hL))).symm.trans HJ.out
                          rw [← e_]
                          exact RJ.out.drewN _
                        generalize (wr.drewN nq5) = W6 at R6 ⊢
                        go_roundg s
                        case measure => omega
                        case rel =>
                          refine ⟨i2, jj + 1, s, D3, by first | rfl | go_num, by go_num, by omega, by omega, hi2b, Nat.le_refl _, hD3, ?_, ?_⟩
                          · have e_ := (by have e_ : D3 = (if b - i2 ≥ 2 then shiftUp ltInt b (i2 + 1) D2 else D2) := HD3.out; rw [if_neg hb2] at e_; exact e_.symm : D2 = D3)
                            rw [← e_]
                            exact R6.out
                          · exact HN.out
                      · have hL : ltInt (G j) (G (j - 1)) = true := by
                          have h_ : (!ltInt (G j) (G (j - 1))) = false := by assumption
                          simpa using h_
                        revert nq; intro nq5
                        have hcw3 : ∀ t, t < n → (wr.drewN nq5).cell? ⟨blk, off + t, none⟩ = some (.int .u8 (G t)) := hcw
                        have hfw3 : ∀ t, t < n → (wr.drewN nq5).frozen? ⟨blk, off + t, none⟩ = false := hfw
                        have RJ2 : Aside (Rw w (wr.drewN nq5) blk off dj) := RJ.out.drewN _
                        clear hcw hfw RJ
                        generalize wr.drewN nq5 = wr5 at hcw3 hfw3 RJ2 ⊢
                        go_region
                        go_wp2_with fail
                        go_roundg (j - 1)
                        case measure => omega
                        case rel =>
                          refine ⟨j - 1, swp dj j (j - 1), by congr 1; omega, by omega, Nat.le_refl _, by rw [size_swp]; exact hsj, ?_, ?_⟩
                          · rw [HG.out, HG.out]
                            exact (RJ2.out.drew).swap j (j - 1) (by omega) (by omega)
                          · show shiftDown ltInt (j - 1) _ = _
                            rw [← HJ.out]; exact (sd_go j dj hlt (by rw [HG.out, HG.out] at hL; exact hL)).symm
                    · have hltz : ¬ (1 : Int) ≤ (j : Int) := by omega
                      go_wp2_with fail
                      have R6 : Aside (Rw w wr blk off D2) := by
                        show Rw w wr blk off D2
                        have e_ := (sd_stop j dj (Or.inl (by omega))).symm.trans HJ.out
                        rw [← e_]
                        exact RJ.out
                      generalize wr = W6 at R6 ⊢
                      go_roundg s
                      case measure => omega
                      case rel =>
                        refine ⟨i2, jj + 1, s, D3, by first | rfl | go_num, by go_num, by omega, by omega, hi2b, Nat.le_refl _, hD3, ?_, ?_⟩
                        · have e_ := (by have e_ : D3 = (if b - i2 ≥ 2 then shiftUp ltInt b (i2 + 1) D2 else D2) := HD3.out; rw [if_neg hb2] at e_; exact e_.symm : D2 = D3)
                          rw [← e_]
                          exact R6.out
                        · exact HN.out
                · have hai2 : ¬ (2 : Int) ≤ (i2 : Int) - (a : Int) := by omega
                  go_wp2_with fail
                  have R6 : Aside (Rw w W5 blk off D2) := by
                    show Rw w W5 blk off D2
                    have e_ := (by have e_ : D2 = (if i2 - a ≥ 2 then shiftDown ltInt (i2 - 1) (swp dk i2 (i2 - 1)) else swp dk i2 (i2 - 1)) := HD2.out; rw [if_neg ha2] at e_; exact e_.symm : swp dk i2 (i2 - 1) = D2)
                    rw [← e_]
                    exact R5.out
                  generalize W5 = W6 at R6 ⊢
                  go_roundg s
                  case measure => omega
                  case rel =>
                    refine ⟨i2, jj + 1, s, D3, by first | rfl | go_num, by go_num, by omega, by omega, hi2b, Nat.le_refl _, hD3, ?_, ?_⟩
                    · have e_ := (by have e_ : D3 = (if b - i2 ≥ 2 then shiftUp ltInt b (i2 + 1) D2 else D2) := HD3.out; rw [if_neg hb2] at e_; exact e_.symm : D2 = D3)
                      rw [← e_]
                      exact R6.out
                    · exact HN.out
        · obtain rfl : i2 = b := by omega
          have hlez : decide ((i2 : Int) < (i2 : Int)) = false := decide_eq_false (by omega)
          have UP : Aside (scanSorted ltInt dk i2 i = i2) := by
            show scanSorted ltInt dk i2 i = i2
            rw [← HU.out]; exact ss_stop _ _ _ (Or.inl hle)
          go_wp2_with fail
          go_big_quiet (first | (go_at_call 149; refine Calls.quiet_of_same (less _ _ _)))
          go_wp2_with fail
          go_ret
          have HQ2 := HQ.out
          rw [pi_at a i2 s i i2 dk UP.out, if_pos rfl] at HQ2
          rw [← HQ2]
          exact ⟨rfl, RK2.out.drewN _⟩
end Go.Proofs.YtkbgmojomgelbaaGreat.Srt
