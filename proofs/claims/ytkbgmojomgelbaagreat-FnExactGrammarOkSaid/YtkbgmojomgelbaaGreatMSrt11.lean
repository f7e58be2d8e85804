import Derived.Test.YtkbgmojomgelbaaGreatMSrt7
import Derived.Test.YtkbgmojomgelbaaGreatMSrt9
import Derived.Test.YtkbgmojomgelbaaGreatMSrt10
import Derived.Sort.Walk13a
import Derived.Deep.Cut
import Derived.Sort.LotD4
import Derived.Sort.LotB
import Derived.Sort.LotC
set_option linter.unusedVariables false
set_option linter.unusedSimpArgs false
namespace Go.Proofs.YtkbgmojomgelbaaGreat.Srt
open Go.RowKit Go.Sort
theorem hintN_two {h : Hint} (e : hintN h = 2) : h = .decreasing := by cases h <;> simp [hintN] at e ⊢
theorem eighth {x y p q : Nat} (h1 : q ≤ p) (h2 : y ≤ x) : decide (((x : Int) - (y : Int)) / 8 ≤ (p : Int) - (q : Int)) = decide (p - q ≥ (x - y) / 8) := by
  have e : (((x : Int) - (y : Int)) / 8 ≤ (p : Int) - (q : Int)) ↔ (p - q ≥ (x - y) / 8) := by omega
  by_cases h : p - q ≥ (x - y) / 8
  · rw [decide_eq_true h, decide_eq_true (e.2 h)]
  · rw [decide_eq_false h, decide_eq_false (fun h3 => h (e.1 h3))]
set_option maxRecDepth 100000 in
set_option maxHeartbeats 64000000 in
theorem pdqsort : ∀ (N blk off cap a b lim0 n : Nat) (d : Array Int) (w : World), b - a < N → d.size = n → Holds (Value.int .u8) w blk off d → blk < w.heap.size → a ≤ b → b ≤ n → n < 4611686018427387904 → lim0 < 4611686018427387904 → Sort.Below ltInt a b d →
    Calls Tryz.prog 135 #[.slice (some ⟨blk, off, none⟩) n cap, .int .i64 a, .int .i64 b, .int .i64 lim0] w fun e w' => e = .returned (.tuple #[]) ∧ Rw w w' blk off (pdq ltInt d a b lim0 true true) := by
  intro N
  induction N with
  | zero => intro _ _ _ _ _ _ _ _ _ h; exact absurd h (Nat.not_lt_zero _)
  | succ N ih =>
    intro blk off cap a b lim0 n d w hN hn hH hblk hab hb hsz hlim hBel
    have R0 : Aside (Rw w w blk off d) := Rw.refl hH hblk
    obtain ⟨P, HP⟩ : ∃ P, Aside (pdq ltInt d a b lim0 true true = P) := ⟨_, rfl⟩
    rw [HP.out]
    clear hH
    go_enter Tryz.func135, Tryz.ntmps135
    go_wp2
    go_loopg [1, 2, 3, 8, 9] (b - a) (fun gg s1 s2 s3 s8 s9 wr => ∃ (x y lim : Nat) (wb wp : Bool) (dk : Array Int), s1 = .int .i64 x ∧ s2 = .int .i64 y ∧ s3 = .int .i64 lim ∧ s8 = .bool wb ∧ s9 = .bool wp ∧
      x ≤ y ∧ y ≤ n ∧ y - x ≤ gg ∧ gg ≤ b - a ∧ lim ≤ lim0 ∧ dk.size = n ∧ Aside (Sort.Below ltInt x y dk) ∧ Aside (Rw w wr blk off dk) ∧ Aside (pdq ltInt dk x y lim wb wp = P))
    case atStart => exact ⟨a, b, lim0, true, true, d, rfl, rfl, rfl, rfl, rfl, hab, hb, Nat.le_refl _, Nat.le_refl _, Nat.le_refl _, hn, hBel, R0.out, HP.out⟩
    case round =>
      clear R0 HP hBel
      obtain ⟨x, y, lim, wb, wp, dk, rfl, rfl, rfl, rfl, rfl, hxy, hy, hg, hgN, hll, hsk, BL, RK, HQ⟩ := hrel
      by_cases h12 : y - x ≤ 12
      · have h12z : (y : Int) - (x : Int) ≤ 12 := by omega
        have hc := insertion_n blk off cap x y n dk wr hsk RK.out.holds RK.out.ltw hxy hy hsz
        go_wp2_with (go_at_call 143; with_reducible refine hc.mono ?_; rintro e w1 ⟨rfl, R1⟩)
        (try simp only [Exit.inBlock, Exit.then]); refine bodyPost_ret (results_none rfl _ _ _) rfl ?_
        refine ⟨rfl, ?_⟩
        rw [← HQ.out, pdq_small h12]
        exact RK.out.trans R1
      · have h12z : ¬ ((y : Int) - (x : Int) ≤ 12) := by omega
        by_cases hl0 : lim = 0
        · subst hl0
          have hc := heap blk off cap x y n dk wr hsk RK.out.holds RK.out.ltw hxy hy hsz
          go_wp2_with (go_at_call 144; with_reducible refine hc.mono ?_; rintro e w1 ⟨rfl, R1⟩)
          (try simp only [Exit.inBlock, Exit.then]); refine bodyPost_ret (results_none rfl _ _ _) rfl ?_
          refine ⟨rfl, ?_⟩
          rw [← HQ.out, pdq_heap h12 rfl]
          exact RK.out.trans R1
        · have hl0z : ¬ ((lim : Int) = 0) := by omega
          obtain ⟨V, hV⟩ : ∃ V : Rd Int, Aside (V = rd ltInt dk x y lim wb wp) := ⟨_, rfl⟩
          have FA := rd_facts (limit := lim) (wb := wb) (wp := wp) swo_ltInt partialInsertionSort_holds reverseRange_holds (show x < y by omega) (show y ≤ dk.size by omega) BL.out
          rw [← hV.out] at FA
          obtain ⟨s1, B1, hc1, s2, B2, hpv, s3, B3⟩ := FA
          rw [hsk] at s1 s2 s3
          have hlimle : V.lim ≤ lim := by rw [hV.out]; exact rd_lim_le
          go_upto_if 35 with fail
          go_cut [3] from 19 (fun s3 wc => s3 = .int .i64 V.lim ∧ Aside (Rw w wc blk off V.d1))
          case first =>
            cases wb
            · have hc := break_ blk off cap x y n dk wr hsk RK.out.holds RK.out.ltw hxy hy hsz
              have ev := @rd_false _ _ ltInt dk x y lim wp
              rw [← hV.out] at ev
              have EV : Aside _ := ev
              clear ev
              go_wp2_with (go_at_call 145; with_reducible refine hc.mono ?_; rintro e w1 ⟨rfl, R1⟩)
              go_meet
              case rel =>
                refine ⟨?_, ?_⟩
                · rw [EV.out.2]
                  congr 1
                  omega
                · show Rw w _ blk off V.d1
                  rw [EV.out.1]
                  exact RK.out.trans R1
            · have ev := @rd_true _ _ ltInt dk x y lim wp
              rw [← hV.out] at ev
              have EV : Aside _ := ev
              clear ev
              go_wp2_with fail
              go_meet
              case rel =>
                refine ⟨by rw [EV.out.2], ?_⟩
                show Rw w _ blk off V.d1
                rw [EV.out.1]
                exact RK.out
          case rest =>
            obtain ⟨rfl, R1⟩ := hcut
            have hc := choose_ blk off cap x y n V.d1 wc s1 R1.out.holds R1.out.ltw (by omega) hy hsz
            have ec : V.c = choosePivot ltInt V.d1 x y := by rw [hV.out]; rfl
            rw [← ec] at hc
            clear ec
            go_upto_if 50 with (go_at_call 146; with_reducible refine hc.mono ?_; rintro e w2 ⟨rfl, hb2⟩)
            have R2 : Aside (Rw w w2 blk off V.d1) := R1.out.below hb2
            go_cut [11, 12] from 19 (fun s11 s12 wc => s11 = .int .i64 V.pivot ∧ s12 = .int .i64 (hintN V.hint) ∧ Aside (Rw w wc blk off V.d2))
            case first =>
              by_cases hh : V.c.2 = .decreasing
              · have hcode : hintN V.c.2 = 2 := by rw [hh]; rfl
                have ev := @rd_dec _ _ ltInt dk x y lim wb wp (by rw [← hV.out]; exact hh)
                rw [← hV.out] at ev
                have EV : Aside _ := ev
                clear ev
                have hr := reverse blk off cap x y n V.d1 w2 s1 R2.out.holds R2.out.ltw (by omega) hy hsz
                go_wp2_with (go_at_call 147; with_reducible refine hr.mono ?_; rintro e w3 ⟨rfl, R3⟩)
                go_meet
                case rel =>
                  refine ⟨?_, by rw [EV.out.2.2]; rfl, ?_⟩
                  · rw [EV.out.2.1]
                    congr 1
                    omega
                  · show Rw w _ blk off V.d2
                    rw [EV.out.1]
                    exact R2.out.trans R3
              · have hcode : ¬ (hintN V.c.2 = 2) := fun h => hh (hintN_two h)
                have ev := @rd_not _ _ ltInt dk x y lim wb wp (by rw [← hV.out]; exact hh)
                rw [← hV.out] at ev
                have EV : Aside _ := ev
                clear ev
                go_wp2_with fail
                go_meet
                case rel =>
                  refine ⟨by rw [EV.out.2.1], by rw [EV.out.2.2], ?_⟩
                  show Rw w _ blk off V.d2
                  rw [EV.out.1]
                  exact R2.out
            case rest =>
              clear R1 R2
              obtain ⟨rfl, rfl, R3⟩ := hcut
              go_upto_region 15 with fail
              go_cut [12, 68] from 19 (fun s12 s68 wx => s12 = .int .i64 (hintN V.hint) ∧ s68 = .bool (wb && wp && decide (V.hint = .increasing)) ∧ wx = wc)
              case first =>
                cases wb <;> cases wp <;> cases hh3 : V.hint <;>
                  (have hcode3 := congrArg hintN hh3
                   simp only [hintN] at hcode3
                   go_wp2_with fail
                   go_meet
                   exact ⟨by simp [hh3, hintN], by simp [hh3, hintN], rfl⟩)
              case rest =>
                obtain ⟨rfl, rfl, rfl⟩ := hcut
                go_upto_if 68 with fail
                go_cut [] from 19 (fun wx => V.pi.2 = false ∧ Aside (Rw w wx blk off V.pi.1))
                case first =>
                  cases h68 : (wb && wp && decide (V.hint = .increasing))
                  · have epi := @rd_pi_no _ _ ltInt dk x y lim wb wp (by rw [← hV.out]; exact h68)
                    rw [← hV.out] at epi
                    have EPI : Aside _ := epi
                    clear epi
                    go_wp2_with fail
                    go_meet
                    case rel =>
                      refine ⟨by rw [EPI.out], ?_⟩
                      show Rw w _ blk off V.pi.1
                      rw [EPI.out]
                      exact R3.out
                  · have epi := @rd_pi_yes _ _ ltInt dk x y lim wb wp (by rw [← hV.out]; exact h68)
                    rw [← hV.out] at epi
                    have hpar := partialIns_ blk off cap x y n V.d2 wc s2 R3.out.holds R3.out.ltw (by omega) hy hsz
                    rw [← epi] at hpar
                    clear epi
                    go_wp2_with (go_at_call 148; with_reducible refine hpar.mono ?_; rintro e w4 ⟨rfl, R4⟩)
                    all_goals first
                      | (have hp2 : V.pi.2 = false := by assumption
                         go_meet
                         exact ⟨hp2, (R3.out.trans R4 : Rw w _ blk off V.pi.1)⟩)
                      | (have hp2 : V.pi.2 = true := by assumption
                         (try simp only [Exit.inBlock, Exit.then]); refine bodyPost_ret (results_none rfl _ _ _) rfl ?_
                         refine ⟨rfl, ?_⟩
                         rw [← HQ.out, pdq_done h12 hl0 (by rw [← hV.out]; exact hp2), ← hV.out]
                         exact R3.out.trans R4)
                case rest =>
                  clear R3
                  obtain ⟨hp2, R5⟩ := hcut
                  obtain ⟨G, HG⟩ : ∃ G : Nat → Int, Aside (∀ t, G t = V.pi.1[t]!) := ⟨fun t => V.pi.1[t]!, fun _ => rfl⟩
                  have hcw : ∀ t, t < n → wc.cell? ⟨blk, off + t, none⟩ = some (.int .u8 (G t)) := fun t ht => by rw [HG.out]; exact R5.out.cells t (by omega)
                  have hfw : ∀ t, t < n → wc.frozen? ⟨blk, off + t, none⟩ = false := fun t ht => R5.out.free t (by omega)
                  go_upto_region 17 with fail
                  go_cut [87] from 19 (fun s87 wx => s87 = .bool (decide (x > 0) && !ltInt (G (x - 1)) (G V.pivot)) ∧ Aside (Rw w wx blk off V.pi.1))
                  case first =>
                    rcases Nat.eq_zero_or_pos x with ha0 | ha0
                    · have ha0z : decide ((x : Int) > 0) = false := decide_eq_false (by omega)
                      go_big_quiet (first | (go_at_call 149; refine Calls.quiet_of_same (less _ _ _)))
                      go_wp2_with fail
                      go_meet
                      case rel => exact ⟨by simp [ha0], (R5.out.drewN nq : Rw w _ blk off V.pi.1)⟩
                    · have ha0z : (x : Int) > 0 := by omega
                      go_big_quiet (first | (go_at_call 149; refine Calls.quiet_of_same (less _ _ _)))
                      go_wp2_with fail
                      go_meet
                      case rel => exact ⟨by simp [ha0], (R5.out.drewN nq : Rw w _ blk off V.pi.1)⟩
                  case rest =>
                    clear R5 hcw hfw
                    obtain ⟨rfl, R6⟩ := hcut
                    have hT : Aside ((decide (x > 0) && !ltInt (G (x - 1)) (G V.pivot)) = (decide (x > 0) && !ltInt V.pi.1[x - 1]! V.pi.1[V.pivot]!)) := by
                      show (decide (x > 0) && !ltInt (G (x - 1)) (G V.pivot)) = _
                      rw [HG.out, HG.out]
                    cases h87 : (decide (x > 0) && !ltInt (G (x - 1)) (G V.pivot))
                    · have h87v : (decide (x > 0) && !ltInt V.pi.1[x - 1]! V.pi.1[V.pivot]!) = false := by rw [← hT.out]; exact h87
                      have hbnd : y ≤ V.pi.1.size := by omega
                      have hpt := part blk off cap x y V.pivot n V.pi.1 wc s3 R6.out.holds R6.out.ltw hpv.1 hpv.2 hy hsz
                      have RP : ∀ mid ap d4, partition ltInt V.pi.1 x y V.pivot = (mid, ap, d4) → _ := fun mid ap d4 hx => round_part swo_ltInt (partition_holds _) hpv.1 hpv.2 hbnd B3 hx
                      have QL : ∀ mid ap d4, partition ltInt V.pi.1 x y V.pivot = (mid, ap, d4) → x ≤ mid → mid < y → mid - x < y - mid → pdq ltInt (pdq ltInt d4 x mid V.lim true true) (mid + 1) y V.lim (decide (mid - x ≥ (y - x) / 8)) ap = P := fun mid ap d4 hx g1 g2 g3 => by
                        have e_ := pdq_left h12 hl0 (by rw [← hV.out]; exact hp2) (by rw [← hV.out]; exact h87v) (by rw [← hV.out, hx]; exact ⟨g1, g2⟩) (by rw [← hV.out, hx]; exact g3)
                        rw [← hV.out, hx] at e_
                        rw [← HQ.out, e_]
                      have QR : ∀ mid ap d4, partition ltInt V.pi.1 x y V.pivot = (mid, ap, d4) → x ≤ mid → mid < y → ¬ mid - x < y - mid → pdq ltInt (pdq ltInt d4 (mid + 1) y V.lim true true) x mid V.lim (decide (y - mid ≥ (y - x) / 8)) ap = P := fun mid ap d4 hx g1 g2 g3 => by
                        have e_ := pdq_right h12 hl0 (by rw [← hV.out]; exact hp2) (by rw [← hV.out]; exact h87v) (by rw [← hV.out, hx]; exact ⟨g1, g2⟩) (by rw [← hV.out, hx]; exact g3)
                        rw [← hV.out, hx] at e_
                        rw [← HQ.out, e_]
                      generalize partition ltInt V.pi.1 x y V.pivot = X at hpt RP QL QR
                      obtain ⟨mid, ap, d4⟩ := X
                      obtain ⟨r1, r2, r3, r4, r5, r6, r7⟩ := RP mid ap d4 rfl
                      have QL2 := QL mid ap d4 rfl r1 r2
                      have QR2 := QR mid ap d4 rfl r1 r2
                      clear RP QL QR
                      rw [s3] at r3
                      go_upto_if 113 with (go_at_call 151; with_reducible refine hpt.mono ?_; rintro e w7 ⟨rfl, R7⟩)
                      have R8 : Aside (Rw w w7 blk off d4) := R6.out.trans R7
                      clear R7
                      by_cases h4 : mid - x < y - mid
                      · have h4z : (mid : Int) - (x : Int) < (y : Int) - (mid : Int) := by omega
                        have QQ : Aside (pdq ltInt (pdq ltInt d4 x mid V.lim true true) (mid + 1) y V.lim (decide (mid - x ≥ (y - x) / 8)) ap = P) := QL2 h4
                        clear QL2 QR2
                        have hih := ih blk off cap x mid V.lim n d4 w7 (by omega) r3 R8.out.holds R8.out.ltw r1 (by omega) hsz (by omega) r4
                        obtain ⟨pL, sL⟩ := pdq_sorts ltInt swo_ltInt d4 x mid V.lim true true r1 (by omega) r4
                        have r6b := (r6 _ pL sL).1
                        go_wp2_with (go_at_call 135; with_reducible refine hih.mono ?_; rintro e w8 ⟨rfl, R9⟩)
                        go_roundg (y - (mid + 1))
                        case measure => omega
                        case rel =>
                          refine ⟨mid + 1, y, V.lim, decide (mid - x ≥ (y - x) / 8), ap, pdq ltInt d4 x mid V.lim true true, by go_num, rfl, rfl, ?_, rfl, by omega, hy, Nat.le_refl _, by omega, by omega, pL.1.trans r3, r6b, R8.out.trans R9, QQ.out⟩
                          exact congrArg Value.bool (eighth (by omega) (by omega))
                      · have h4z : ¬ ((mid : Int) - (x : Int) < (y : Int) - (mid : Int)) := by omega
                        have QQ : Aside (pdq ltInt (pdq ltInt d4 (mid + 1) y V.lim true true) x mid V.lim (decide (y - mid ≥ (y - x) / 8)) ap = P) := QR2 h4
                        clear QL2 QR2
                        have hih := ih blk off cap (mid + 1) y V.lim n d4 w7 (by omega) r3 R8.out.holds R8.out.ltw (by omega) hy hsz (by omega) r5
                        rw [show ((mid + 1 : Nat) : Int) = (mid : Int) + 1 from by omega] at hih
                        obtain ⟨pL, sL⟩ := pdq_sorts ltInt swo_ltInt d4 (mid + 1) y V.lim true true (by omega) (by omega) r5
                        have r7b := (r7 _ pL sL).1
                        go_wp2_with (go_at_call 135; with_reducible refine hih.mono ?_; rintro e w8 ⟨rfl, R9⟩)
                        go_roundg (mid - x)
                        case measure => omega
                        case rel =>
                          refine ⟨x, mid, V.lim, decide (y - mid ≥ (y - x) / 8), ap, pdq ltInt d4 (mid + 1) y V.lim true true, rfl, rfl, rfl, ?_, rfl, r1, by omega, Nat.le_refl _, by omega, by omega, pL.1.trans r3, r7b, R8.out.trans R9, QQ.out⟩
                          exact congrArg Value.bool (eighth (by omega) (by omega))
                    · have h87v : (decide (x > 0) && !ltInt V.pi.1[x - 1]! V.pi.1[V.pivot]!) = true := by rw [← hT.out]; exact h87
                      have h87w := h87v
                      simp only [Bool.and_eq_true, decide_eq_true_eq, Bool.not_eq_true'] at h87w
                      have hbnd : y ≤ V.pi.1.size := by omega
                      have hpe := partEq blk off cap x y V.pivot n V.pi.1 wc s3 R6.out.holds R6.out.ltw hpv.1 hpv.2 hy hsz
                      have RP : ∀ mid d4, partitionEqual ltInt V.pi.1 x y V.pivot = (mid, d4) → _ := fun mid d4 hx => round_eq swo_ltInt (partitionEqual_holds _) h87w.1 hpv.1 hpv.2 hbnd B3 h87w.2 hx
                      have QE : ∀ mid d4, partitionEqual ltInt V.pi.1 x y V.pivot = (mid, d4) → x < mid → mid ≤ y → pdq ltInt d4 mid y V.lim wb wp = P := fun mid d4 hx g1 g2 => by
                        have e_ := pdq_eq h12 hl0 (by rw [← hV.out]; exact hp2) (by rw [← hV.out]; exact h87v) (by rw [← hV.out, hx]; exact ⟨g1, g2⟩)
                        rw [← hV.out, hx] at e_
                        rw [← HQ.out, e_]
                      generalize partitionEqual ltInt V.pi.1 x y V.pivot = X at hpe RP QE
                      obtain ⟨mid, d4⟩ := X
                      obtain ⟨r1, r2, r3, r4, _⟩ := RP mid d4 rfl
                      have QQ : Aside (pdq ltInt d4 mid y V.lim wb wp = P) := QE mid d4 rfl r1 r2
                      clear RP QE
                      rw [s3] at r3
                      go_wp2_with (go_at_call 150; with_reducible refine hpe.mono ?_; rintro e w7 ⟨rfl, R7⟩)
                      go_roundg (y - mid)
                      case measure => omega
                      case rel => exact ⟨mid, y, V.lim, wb, wp, d4, rfl, rfl, rfl, rfl, rfl, r2, hy, Nat.le_refl _, by omega, by omega, r3, r4, R6.out.trans R7, QQ.out⟩
end Go.Proofs.YtkbgmojomgelbaaGreat.Srt
