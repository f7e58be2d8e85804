/- '[]byte(s)', sorted, each byte once: what lies there is read alone from then on. -/
import Derived.Test.YtbkncnlehlldeaaMSrt15
import Derived.Laws.IdiomStrings
set_option linter.unusedVariables false
set_option linter.unusedSimpArgs false
namespace Go.Proofs.Ytbkncnlehlldeaa.Srt
open Go.RowKit Go.Sort Go.Proofs.YtbkncnlehlldeaaW.PrintWords Go.Proofs.YtbkncnlehlldeaaW.PrintLast
theorem grown_below {w w' : World} {g : Nat} (h : w.grownBy w' (some g)) (base : Nat) (hb : base ≤ g) (hs : base ≤ w.heap.size) : Below base w w' :=
  ⟨h.os, h.tape, h.output, h.size, fun k hk => h.block k (by omega) (fun e => by injection e with e; omega)⟩
/-- A string made to bytes: its row. -/
theorem made (s : ByteArray) (w : World) : ∃ (cap : Nat) (w1 : World), (convert 9 29 (.string s)).run Try.prog w = .ok (.slice (some ⟨w.heap.size, 0, none⟩) s.size cap) w1 ∧ s.size ≤ cap ∧ w.heap.size < w1.heap.size ∧ Below w.heap.size w w1 ∧ Holds (Value.int .u8) w1 w.heap.size 0 (bytesOf s).toArray := by
  have h := run_bytes_of_string (P := Try.prog) w 9 29 5 s Try.underlying9 Try.underlying29 Try.underlying5
  have hc := grownCap_ge w s.size 0 5
  generalize grownCap w s.size 0 5 = cap at h hc
  refine ⟨cap, _, h, hc, ?_, ?_, ?_⟩
  · show w.heap.size < (w.heap.push _).size
    simp
  · refine ⟨rfl, rfl, rfl, ?_, fun k hk => ?_⟩
    · show w.heap.size ≤ (w.heap.push _).size
      simp
    · show (w.heap.push _)[k]? = _
      rw [Array.getElem?_push, if_neg (by omega)]
  · intro j hj
    have hj2 : j < s.data.size := by simpa [bytesOf] using hj
    have hb : (w.drew.alloc (.cells (bytesRow s cap) 5 ((bytesRow s cap).size, (bytesRow s cap).size + 1))).heap[w.heap.size]? = some (.cells (bytesRow s cap) 5 ((bytesRow s cap).size, (bytesRow s cap).size + 1)) := by
      show (w.heap.push _)[w.heap.size]? = _
      simp
    have hsz : j < (bytesRow s cap).size := by
      unfold bytesRow
      simp only [Array.size_append, Array.size_map]
      omega
    refine ⟨?_, ?_⟩
    · rw [Nat.zero_add, cell_of_row _ _ _ _ 5 _ hb, bytesRow_at s cap j hj2]
      have hj3 : j < (bytesOf s).length := by simpa using hj
      have e : (bytesOf s).toArray[j]! = (s.data[j].toNat : Int) := by
        simp [bytesOf, hj2]
        rw [Array.getElem?_eq_getElem hj2]
        rfl
      rw [e]
    · unfold World.frozen?
      rw [hb]
      simp
      omega
theorem reads_of_holds {w : World} {g : Nat} {l zs : List Int} (hH : Holds (Value.int .u8) w g 0 l.toArray) (hz : l.take zs.length = zs) (hl : zs.length ≤ l.length) (hm : zs.length ≤ 9223372036854775807) : ReadsInt w .u8 (some ⟨g, 0, none⟩) zs.length zs := by
  refine ⟨rfl, hm, fun _ => ⟨_, rfl, fun j hj => ?_⟩⟩
  have hj2 : j < l.length := by omega
  have e := (hH j (by simpa using hj2)).1
  rw [Nat.zero_add] at e
  rw [add_plain]
  refine e.trans ?_
  have e2 : l[j]? = zs[j]? := by
    have := congrArg (fun x : List Int => x[j]?) hz
    simp only [List.getElem?_take, if_pos hj] at this
    exact this
  rw [List.getD_eq_getElem?_getD, ← e2, List.getElem?_eq_getElem hj2, Option.getD_some]
  simp [hj2]
theorem prep (s : ByteArray) (hs : s.size < 4611686018427387904) (w : World) : ∃ (u : Value) (w1 : World) (A0 : Option Addr) (c0 : Nat) (l0 : List Int) (R : World → Prop), l0 = dd (msort (bytesOf s)) ∧ l0.length ≤ c0 ∧
    (convert 9 29 (.string s)).run Try.prog w = .ok u w1 ∧ Calls Try.prog 36 #[u] w1 (fun e w' => e = .returned (.tuple #[]) ∧ R w') ∧
    ∀ w2, R w2 → Calls Try.prog 37 #[u] w2 fun e w' => e = .returned (.slice A0 l0.length c0) ∧ Kd.C (Kd.int .u8) w' A0 l0.length l0 ∧ Below w.heap.size w w' := by
  obtain ⟨cap, w1, h1, h2, h3, h4, h5⟩ := made s w
  have hlen : (bytesOf s).length = s.size := bytesOf_length s
  have hml : (msort (bytesOf s)).length = s.size := (msort_length _).trans hlen
  have hdl : (dd (msort (bytesOf s))).length ≤ s.size := by
    have h : ∀ (n : Nat) (l : List Int), l.length = n → (dd l).length ≤ n := by
      intro n
      induction n with
      | zero => intro l hl; rw [List.length_eq_zero_iff.1 hl]; exact Nat.le_refl _
      | succ n ih =>
        intro l hl
        rcases List.eq_nil_or_concat l with rfl | ⟨m, y, rfl⟩
        · exact Nat.zero_le _
        · rw [List.concat_eq_append] at hl ⊢
          have hm := ih m (by simpa using hl)
          rw [dd_snoc]
          split
          · omega
          · simp only [List.length_append, List.length_cons, List.length_nil]; omega
    exact h _ _ hml
  refine ⟨_, w1, some ⟨w.heap.size, 0, none⟩, cap, _, fun w' => Rw w1 w' w.heap.size 0 (msort (bytesOf s)).toArray, rfl, by omega, h1, ?_, fun w2 R2 => ?_⟩
  · exact sort_row w.heap.size 0 cap s.size (bytesOf s) w1 hlen h5 h3 hs
  · refine (compact w.heap.size 0 cap s.size (msort (bytesOf s)) w2 hml R2.holds R2.ltw h2 hs).mono ?_
    rintro e w3 ⟨rfl, ys, y1, y2, R3⟩
    refine ⟨rfl, Kd.C_of_reads (d := (0 : Int)) (h1 := fun _ => rfl) (reads_of_holds R3.holds y2 (by omega) (by omega)), h4.trans ?_⟩
    exact (grown_below R2.grown w.heap.size (Nat.le_refl _) (Nat.le_of_lt h3)).trans (grown_below R3.grown w.heap.size (Nat.le_refl _) (Nat.le_of_lt R2.ltw))
end Go.Proofs.Ytbkncnlehlldeaa.Srt
