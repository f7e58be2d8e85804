import Derived.Test.YtkbgmojomgelbaaGreatMSrt0
import Derived.Lib.SliceRun
set_option linter.unusedVariables false
set_option linter.unusedSimpArgs false
namespace Go.Proofs.YtkbgmojomgelbaaGreat.Srt
open Go.RowKit Go.Sort
def dd (l : List Int) : List Int := l.foldl (fun acc x => if acc.getLast? = some x then acc else acc ++ [x]) []
theorem dd_snoc (l : List Int) (y : Int) : dd (l ++ [y]) = if (dd l).getLast? = some y then dd l else dd l ++ [y] := by
  unfold dd
  rw [List.foldl_append]
  rfl
theorem dd_last (l : List Int) : (dd l).getLast? = l.getLast? := by
  rcases List.eq_nil_or_concat l with rfl | ⟨m, y, rfl⟩
  · rfl
  · rw [List.concat_eq_append, dd_snoc]
    by_cases h : (dd m).getLast? = some y
    · rw [if_pos h, h]; simp
    · rw [if_neg h]; simp
theorem dd_take (l : List Int) (k : Nat) (h1 : 1 ≤ k) (hk : k < l.length) : dd (l.take (k + 1)) = if l.getD (k - 1) 0 = l.getD k 0 then dd (l.take k) else dd (l.take k) ++ [l.getD k 0] := by
  have e1 : l.take (k + 1) = l.take k ++ [l.getD k 0] := by
    rw [List.take_add_one, List.getElem?_eq_getElem hk, List.getD_eq_getElem?_getD, List.getElem?_eq_getElem hk]
    rfl
  have e2 : (l.take k).getLast? = some (l.getD (k - 1) 0) := by
    rw [List.getLast?_eq_getElem?, List.length_take, Nat.min_eq_left (by omega), List.getElem?_take, if_pos (by omega), List.getElem?_eq_getElem (by omega), List.getD_eq_getElem?_getD, List.getElem?_eq_getElem (by omega)]
    rfl
  rw [e1, dd_snoc, dd_last, e2]
  by_cases h : l.getD (k - 1) 0 = l.getD k 0
  · rw [if_pos h, if_pos (by rw [h])]
  · rw [if_neg h, if_neg (by simpa using h)]
theorem dd_one (l : List Int) (h : l.length ≤ 1) : dd l = l := by
  match l, h with
  | [], _ => rfl
  | [x], _ => rfl
theorem Rw.set1 {w0 w : World} {blk off : Nat} {l : List Int} (h : Rw w0 w blk off l.toArray) (i : Nat) (hi : i < l.length) (x : Int) : Rw w0 (w.setCell ⟨blk, off + i, none⟩ (.int .u8 x)) blk off (l.set i x).toArray := by
  have e : w = putRow (Value.int .u8) w blk off l.toArray := (putRow_self _ _ _ _ _ h.holds).symm
  have e2 := putRow_set (Value.int .u8) w blk off l.toArray i x (by simpa using hi)
  rw [← e] at e2
  rw [e2]
  have e3 : l.toArray.setIfInBounds i x = (l.set i x).toArray := by simp
  rw [e3]
  exact h.put (by simp)
theorem Rw.setMany {w0 : World} {blk off : Nat} (x : Int) (m : Nat) : ∀ (w : World) (l : List Int) (i : Nat), Rw w0 w blk off l.toArray → i + m ≤ l.length →
    ∃ ys : List Int, ys.length = l.length ∧ ys.take i = l.take i ∧ Rw w0 (w.setCells blk (off + i) (List.replicate m (.int .u8 x))) blk off ys.toArray := by
  induction m with
  | zero => intro w l i h hi; exact ⟨l, rfl, rfl, h⟩
  | succ m ih =>
    intro w l i h hi
    obtain ⟨ys, h1, h2, h3⟩ := ih _ _ (i + 1) (h.set1 i (by omega) x) (by rw [List.length_set]; omega)
    refine ⟨ys, by rw [h1, List.length_set], ?_, ?_⟩
    · have e := congrArg (List.take i) h2
      rw [List.take_take, List.take_take, Nat.min_eq_left (by omega), List.take_set_of_le (Nat.le_refl i)] at e
      exact e
    · rw [List.replicate_succ]
      show Rw w0 ((w.setCell ⟨blk, off + i, none⟩ (.int .u8 x)).setCells blk (off + i + 1) _) blk off _
      rw [Nat.add_assoc]
      exact h3
theorem cell_get {w0 w : World} {blk off : Nat} {l : List Int} (h : Rw w0 w blk off l.toArray) (t : Nat) (ht : t < l.length) : w.cell? ⟨blk, off + t, none⟩ = some (.int .u8 (l.getD t 0)) ∧ w.frozen? ⟨blk, off + t, none⟩ = false := by
  obtain ⟨h1, h2⟩ := h.holds t (by simpa using ht)
  refine ⟨?_, h2⟩
  rw [h1, List.getD_eq_getElem?_getD, List.getElem?_eq_getElem ht]
  simp [ht]
set_option maxRecDepth 100000 in
set_option maxHeartbeats 8000000 in
theorem compact (blk off cap n : Nat) (l : List Int) (w : World) (hn : l.length = n) (hH : Holds (Value.int .u8) w blk off l.toArray) (hblk : blk < w.heap.size) (hcap : n ≤ cap) (hsz : n < 4611686018427387904) :
    Calls Tryz.prog 122 #[.slice (some ⟨blk, off, none⟩) n cap] w fun e w' => e = .returned (.slice (some ⟨blk, off, none⟩) (dd l).length cap) ∧ ∃ ys : List Int, ys.length = n ∧ ys.take (dd l).length = dd l ∧ Rw w w' blk off ys.toArray := by
  have R0 : Aside (Rw w w blk off l.toArray) := Rw.refl hH hblk
  clear hH
  go_enter Tryz.func122, Tryz.ntmps122
  by_cases h2 : n < 2
  · have h2z : (n : Int) < 2 := by omega
    go_wp2
    go_ret
    have e := dd_one l (by omega)
    rw [e, hn]
    exact ⟨rfl, l, hn, by rw [← hn]; exact List.take_length, R0.out⟩
  · have h2z : ¬ (n : Int) < 2 := by omega
    go_wp2
    go_loopg [3] (n + 1) (fun gg s3 wr => ∃ k : Nat, s3 = .int .i64 k ∧ 1 ≤ k ∧ k ≤ n ∧ n - k ≤ gg ∧ Aside (Rw w wr blk off l.toArray) ∧ Aside (dd (l.take k) = l.take k))
    case atStart => exact ⟨1, rfl, Nat.le_refl _, by omega, by omega, R0.out, dd_one _ (by rw [List.length_take]; omega)⟩
    case round =>
      obtain ⟨k, rfl, hk1, hkn, hg, RK, HD⟩ := hrel
      by_cases hlt : k < n
      · have hltz : (k : Int) < (n : Int) := by omega
        obtain ⟨G, HG⟩ : ∃ G : Nat → Int, Aside (∀ t, G t = l.getD t 0) := ⟨fun t => l.getD t 0, fun _ => rfl⟩
        have hcw : ∀ t, t < n → wr.cell? ⟨blk, off + t, none⟩ = some (.int .u8 (G t)) := fun t ht => by rw [HG.out]; exact (cell_get RK.out t (by omega)).1
        have hstep := dd_take l k hk1 (by omega)
        rw [← HG.out, ← HG.out] at hstep
        have HS : Aside _ := hstep
        clear hstep
        by_cases heq : G k = G (k - 1)
        · have heqb : (G k == G (k - 1)) = true := by simpa using heq
          go_wp2
          go_big_quiet (fail)
          go_wp2
          have R1 : Aside (Rw w (wr.drewN nq) blk off l.toArray) := RK.out.drewN _
          have D1 : Aside (dd (l.take (k + 1)) = l.take k) := by
            show dd (l.take (k + 1)) = l.take k
            have e := HS.out
            rw [if_pos heq.symm, HD.out] at e
            exact e
          clear hcw HS RK heq heqb
          generalize wr.drewN nq = wq at R1 ⊢
          go_loopg [3, 5] (n + 1) (fun gg s3 s5 wr => ∃ (c m : Nat) (dk : List Int), s3 = .int .i64 c ∧ s5 = .int .i64 m ∧ 1 ≤ m ∧ m ≤ n - k ∧ k ≤ c ∧ c ≤ k + m - 1 ∧ n - m ≤ gg ∧ dk.length = n ∧ Aside (dk.drop (k + m - 1) = l.drop (k + m - 1)) ∧ Aside (dk.take c = dd (l.take (k + m))) ∧ Aside (Rw w wr blk off dk.toArray))
          case atStart => exact ⟨k, 1, l, rfl, rfl, Nat.le_refl _, by omega, Nat.le_refl _, by omega, by omega, hn, rfl, D1.out.symm, R1.out⟩
          case round =>
            clear R1 D1 HG
            obtain ⟨c, m, dk, rfl, rfl, hm1, hmn, hkc, hcm, hg2, hdl, DR, DT, RJ⟩ := hrel
            by_cases hlt2 : m < n - k
            · have hlt2z : (m : Int) < ((n - k : Nat) : Int) := by omega
              obtain ⟨G, HG⟩ : ∃ G : Nat → Int, Aside (∀ t, G t = dk.getD t 0) := ⟨fun t => dk.getD t 0, fun _ => rfl⟩
              have hcw : ∀ t, t < n → wr.cell? ⟨blk, off + t, none⟩ = some (.int .u8 (G t)) := fun t ht => by rw [HG.out]; exact (cell_get RJ.out t (by omega)).1
              have hfw : ∀ t, t < n → wr.frozen? ⟨blk, off + t, none⟩ = false := fun t ht => (cell_get RJ.out t (by omega)).2
              have at_ : ∀ t, k + m - 1 ≤ t → t < n → dk.getD t 0 = l.getD t 0 := fun t h1 h2 => by
                have e := congrArg (fun x => x[t - (k + m - 1)]?) DR.out
                simp only [List.getElem?_drop] at e
                rw [show k + m - 1 + (t - (k + m - 1)) = t from by omega] at e
                rw [List.getD_eq_getElem?_getD, List.getD_eq_getElem?_getD, e]
              have hstep : Aside (dd (l.take (k + m + 1)) = if G (k + (m - 1)) = G (k + m) then dd (l.take (k + m)) else dd (l.take (k + m)) ++ [G (k + m)]) := by
                show dd (l.take (k + m + 1)) = if G (k + (m - 1)) = G (k + m) then dd (l.take (k + m)) else dd (l.take (k + m)) ++ [G (k + m)]
                rw [HG.out, HG.out, show k + (m - 1) = k + m - 1 from by omega, at_ (k + m - 1) (Nat.le_refl _) (by omega), at_ (k + m) (by omega) (by omega)]
                exact dd_take l (k + m) (by omega) (by omega)
              have drop1 : Aside (dk.drop (k + m) = l.drop (k + m)) := by
                show dk.drop (k + m) = l.drop (k + m)
                have e := congrArg (List.drop 1) DR.out
                rw [List.drop_drop, List.drop_drop, show k + m - 1 + 1 = k + m from by omega] at e
                exact e
              clear at_
              by_cases heq : G (k + m) = G (k + (m - 1))
              · have heqb : (G (k + m) != G (k + (m - 1))) = false := by simpa using heq
                go_wp2
                go_big_quiet (fail)
                go_wp2
                go_roundg (n - (m + 1))
                case measure => omega
                case rel =>
                  refine ⟨c, m + 1, dk, rfl, by go_num, by omega, by omega, hkc, by omega, Nat.le_refl _, hdl, by rw [show k + (m + 1) - 1 = k + m from by omega]; exact drop1.out, ?_, RJ.out.drewN _⟩
                  show dk.take c = dd (l.take (k + m + 1))
                  rw [hstep.out, if_pos heq.symm]
                  exact DT.out
              · have heqb : (G (k + m) != G (k + (m - 1))) = true := by simpa using heq
                go_wp2
                go_big_quiet (fail)
                go_wp2
                go_roundg (n - (m + 1))
                case measure => omega
                case rel =>
                  refine ⟨c + 1, m + 1, dk.set c (G (k + m)), by go_num, by go_num, by omega, by omega, by omega, by omega, Nat.le_refl _, by rw [List.length_set]; exact hdl, ?_, ?_, ?_⟩
                  · show (dk.set c (G (k + m))).drop (k + (m + 1) - 1) = l.drop (k + (m + 1) - 1)
                    rw [show k + (m + 1) - 1 = k + m from by omega, List.drop_set_of_lt (by omega)]
                    exact drop1.out
                  · show (dk.set c (G (k + m))).take (c + 1) = dd (l.take (k + m + 1))
                    rw [hstep.out, if_neg (fun h => heq h.symm), List.take_add_one, List.getElem?_set_self (by omega), List.take_set_of_le (Nat.le_refl c), DT.out]
                    rfl
                  · exact (RJ.out.drewN _).set1 c (by omega) _
            · have hlt2z : ¬ (m : Int) < ((n - k : Nat) : Int) := by omega
              have hcl := Lib.run_clear_slice (P := Tryz.prog) wr 137 5
              have hclr : ∀ ty, (Builtin.clear_ #[137] ty #[.slice (some ⟨blk, off + c, none⟩) (n - c) (cap - c)]).run Tryz.prog wr = .ok (.tuple #[]) (wr.setCells blk (off + c) (List.replicate (n - c) (.int .u8 0))) := fun ty =>
                Lib.run_clear_slice wr 137 5 ty (.int .u8 0) Tryz.underlying137 Tryz.zeroValue5 rfl rfl blk (off + c) (n - c) (cap - c) (by omega) (fun q hq => by rw [Nat.add_assoc, (cell_get RJ.out (c + q) (by omega)).1]; rfl) (fun q hq => by rw [Nat.add_assoc]; exact (cell_get RJ.out (c + q) (by omega)).2)
              clear hcl
              obtain ⟨ys, y1, y2, y3⟩ := Rw.setMany 0 (n - c) wr dk c RJ.out (by omega)
              have RY : Aside (Rw w (wr.setCells blk (off + c) (List.replicate (n - c) (.int .u8 0))) blk off ys.toArray) := y3
              have hDD : Aside (dk.take c = dd l) := by
                show dk.take c = dd l
                have e := DT.out
                rw [List.take_of_length_le (show l.length ≤ k + m by omega)] at e
                exact e
              have hcl2 : Aside ((dd l).length = c) := by
                show (dd l).length = c
                rw [← hDD.out, List.length_take]; omega
              clear y3
              generalize List.replicate (n - c) (Value.int .u8 0) = zs at hclr RY
              have hcn : c ≤ n := by omega
              go_wp2
              go_ret
              rw [hcl2.out]
              exact ⟨rfl, ys, by omega, by rw [y2]; exact hDD.out, RY.out⟩
        · have heqb : (G k == G (k - 1)) = false := by simpa using heq
          go_wp2
          go_big_quiet (fail)
          go_wp2
          go_roundg (n - (k + 1))
          case measure => omega
          case rel =>
            refine ⟨k + 1, by go_num, by omega, by omega, Nat.le_refl _, RK.out.drewN _, ?_⟩
            show dd (l.take (k + 1)) = l.take (k + 1)
            have e := HS.out
            rw [if_neg (fun h => heq h.symm), HD.out] at e
            rw [e, List.take_add_one, List.getElem?_eq_getElem (by omega), HG.out, List.getD_eq_getElem?_getD, List.getElem?_eq_getElem (by omega)]
            rfl
      · have hltz : ¬ (k : Int) < (n : Int) := by omega
        go_wp2
        go_ret
        have e : dd l = l := by
          have h_ : dd (l.take k) = l.take k := HD.out
          rwa [List.take_of_length_le (by omega)] at h_
        rw [e, hn]
        exact ⟨rfl, l, hn, by rw [← hn]; exact List.take_length, RK.out⟩
end Go.Proofs.YtkbgmojomgelbaaGreat.Srt
