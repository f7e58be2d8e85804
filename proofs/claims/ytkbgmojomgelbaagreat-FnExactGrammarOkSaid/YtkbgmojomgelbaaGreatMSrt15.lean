import Derived.Test.YtkbgmojomgelbaaGreatMSrt13
import Derived.Test.YtkbgmojomgelbaaGreatMSrt14
set_option linter.unusedVariables false
set_option linter.unusedSimpArgs false
namespace Go.Proofs.YtkbgmojomgelbaaGreat.Srt
open Go.RowKit Go.Sort Go.Proofs.YtkbgmojomgelbaaGreatW.PrintWords Go.Proofs.YtkbgmojomgelbaaGreatW.PrintLast
theorem row_own_take {w w' : World} {base g cap : Nat} {P : Nat → Prop} {cur : Array Value} {ys zs : List Int} (hR : Rw w w' g 0 ys.toArray) (hb : base ≤ g) (hP : P g) (hh : w.heap[g]? = some (.cells cur 5 (0, 0))) (hs : cur.size = cap) (hn : ys.length ≤ cap) (hc : cap ≤ maxLen) (hz : ys.take zs.length = zs) (hzl : zs.length ≤ ys.length) :
    Kd.R (Kd.int .u8) 5 w' base P (.slice (some ⟨g, 0, none⟩) zs.length cap) zs := by
  obtain ⟨cur', h1, h2⟩ := hR.shape cur 5 (0, 0) hh
  refine ⟨fun k hk => ?_, encs (Value.int .u8) zs, ⟨by rw [encs_length]; exact (Nat.mul_one _).symm, .inr ⟨g, cap, cur', rfl, hb, h1, by omega, hc, ?_, ?_⟩⟩, Kd.reps_scalar zs⟩
  · have : g = k := by simpa [Value.ownBlock] using hk
    subst this; exact hP
  · rw [h2, hs]; exact (Nat.mul_one cap).symm
  · apply List.ext_getElem?
    intro j
    show (cur'.toList.take (zs.length * 1))[j]? = (encs (Value.int .u8) zs)[j]?
    rw [Nat.mul_one, List.getElem?_take]
    by_cases hj : j < zs.length
    · rw [if_pos hj]
      have hjy : j < ys.length := by omega
      have e := (hR.holds j (by simpa using hjy)).1
      rw [Nat.zero_add, cell_of_row w' g j cur' 5 (0, 0) h1] at e
      have e2 : ys[j]? = zs[j]? := by
        have := congrArg (fun x : List Int => x[j]?) hz
        simp only [List.getElem?_take, if_pos hj] at this
        exact this
      rw [List.getElem?_eq_getElem hjy, List.getElem?_eq_getElem hj] at e2
      injection e2 with e2
      rw [Array.getElem?_toList, e]
      simp [encs, hj, hjy, e2]
    · rw [if_neg hj, List.getElem?_eq_none (by simp [encs]; omega)]
set_option maxRecDepth 100000 in
set_option maxHeartbeats 4000000 in
theorem compact_nil (w : World) : Calls Tryz.prog 122 #[.slice none 0 0] w fun e w' => e = .returned (.slice none 0 0) ∧ Below w.heap.size w w' := by
  go_enter Tryz.func122, Tryz.ntmps122
  go_wp2
  go_ret
  exact ⟨rfl, Below.refl _ _⟩
theorem compact_own (P0_ : Nat → Prop) (u_ : Value) (l0 : List Int) (w0 w : World) (hB : Below w0.heap.size w0 w) (ho0 : Kd.R (Kd.int .u8) 5 w w0.heap.size P0_ u_ l0) (hl : l0.length < 4611686018427387904) :
    Calls Tryz.prog 122 #[u_] w fun e w' => ∃ v0_ : Value, e = .returned v0_ ∧ Kd.R (Kd.int .u8) 5 w' w0.heap.size (fun k_ => (P0_ k_ ∨ w.heap.size ≤ k_)) v0_ (dd l0) ∧ Below w0.heap.size w0 w' ∧ Kept w w' (fun k_ => P0_ k_) := by
  rcases own_row ho0 with ⟨rfl, rfl⟩ | ⟨g, cap, cur, rfl, hb, hP, hH, hh, hs, hn, hc⟩
  · refine (compact_nil w).mono ?_
    rintro e w' ⟨rfl, hb'⟩
    exact ⟨_, rfl, Kd.R_nil _ _ _ _ _, hB.trans (hb'.mono hB.size), Kept.of_below hb' _⟩
  · have hg : g < w.heap.size := by
      rcases Nat.lt_or_ge g w.heap.size with h | h
      · exact h
      · rw [Array.getElem?_eq_none h] at hh; cases hh
    refine (compact g 0 cap l0.length l0 w rfl hH hg hn hl).mono ?_
    rintro e w' ⟨rfl, ys, hy1, hy2, R⟩
    have hyl : (dd l0).length ≤ ys.length := by
      have := congrArg List.length hy2
      rw [List.length_take] at this
      omega
    refine ⟨_, rfl, row_own_take R hb (.inl hP) hh hs (by omega) hc hy2 hyl, ?_, Kept.of_grown R.grown (Kept.refl w _) (fun k hk => ?_)⟩
    · exact ⟨R.grown.os.trans hB.os, R.grown.tape.trans hB.tape, R.grown.output.trans hB.output, Nat.le_trans hB.size R.grown.size, fun k hk => (R.grown.block k (Nat.lt_of_lt_of_le hk hB.size) (fun e => by injection e with e; omega)).trans (hB.block k hk)⟩
    · injection hk with hk; subst hk; exact .inl hP
end Go.Proofs.YtkbgmojomgelbaaGreat.Srt
