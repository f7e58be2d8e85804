/- '[]byte(s)', one byte of it stored, and back to a string. -/
import Derived.Test.YtigibdkgimgknaaProg
import Derived.Test.YtigibdkgimgknaaMWords
import Derived.Test.YtigibdkgimgknaaWLast
import Derived.Laws.IdiomStrings
set_option linter.unusedVariables false
namespace Go.Proofs.Ytigibdkgimgknaa.By
open Go.RowKit Go.Proofs.YtigibdkgimgknaaW.PrintWords Go.Proofs.YtigibdkgimgknaaW.PrintLast
theorem made (s : ByteArray) (w : World) : ∃ (cap : Nat) (w1 : World), (convert 9 38 (.string s)).run Try.prog w = .ok (.slice (some ⟨w.heap.size, 0, none⟩) s.size cap) w1 ∧ s.size ≤ cap ∧ w.heap.size < w1.heap.size ∧ Below w.heap.size w w1 ∧
    (∀ j, j < s.size → w1.cell? ⟨w.heap.size, j, none⟩ = some (.int .u8 (bt s (j : Int)))) ∧ (∀ j, j < s.size → w1.frozen? ⟨w.heap.size, j, none⟩ = false) := by
  have h := run_bytes_of_string (P := Try.prog) w 9 38 5 s Try.underlying9 Try.underlying38 Try.underlying5
  have hc := grownCap_ge w s.size 0 5
  generalize grownCap w s.size 0 5 = cap at h hc
  refine ⟨cap, _, h, hc, ?_, ?_, fun j hj => ?_, fun j hj => ?_⟩
  · show w.heap.size < (w.heap.push _).size
    simp
  · refine ⟨rfl, rfl, rfl, ?_, fun k hk => ?_⟩
    · show w.heap.size ≤ (w.heap.push _).size
      simp
    · show (w.heap.push _)[k]? = _
      rw [Array.getElem?_push, if_neg (by omega)]
  · refine (World.cell?_alloc_mark w.drew (bytesRow s cap) 5 _ j).trans ?_
    rw [bytesRow_at s cap j hj]
    unfold bt
    rw [Int.toNat_natCast, dif_pos hj]
    rfl
  · refine (World.frozen?_alloc_mark w.drew (bytesRow s cap) 5 _ _ j).trans ?_
    have hsz : s.size ≤ (bytesRow s cap).size := by
      unfold bytesRow
      simp only [Array.size_append, Array.size_map]
      show s.data.size ≤ _
      omega
    rw [decide_eq_false (by omega), Bool.false_and]
theorem back (s : ByteArray) (w1 : World) (g cap i : Nat) (x : Int) (hx : 0 ≤ x ∧ x ≤ 255) (hi : i < s.size) (hc : ∀ j, j < s.size → w1.cell? ⟨g, j, none⟩ = some (.int .u8 (bt s (j : Int)))) :
    (convert 38 9 (.slice (some ⟨g, 0, none⟩) s.size cap)).run Try.prog (w1.setCell ⟨g, i, none⟩ (.int .u8 x)) = .ok (.string ⟨(s.data.toList.set i (UInt8.ofNat x.toNat)).toArray⟩) (w1.setCell ⟨g, i, none⟩ (.int .u8 x)) := by
  have hl : (s.data.toList.set i (UInt8.ofNat x.toNat)).length = s.size := by rw [List.length_set]; rfl
  have h := run_convert_bytes_back (P := Try.prog) (w1.setCell ⟨g, i, none⟩ (.int .u8 x)) 38 9 5 ⟨g, 0, none⟩ cap (s.data.toList.set i (UInt8.ofNat x.toNat)) Try.underlying38 Try.underlying5 Try.underlying9 (fun j hj => by
    rw [hl] at hj
    have ea : (⟨g, 0, none⟩ : Addr).add j = ⟨g, j, none⟩ := by
      rw [add_plain]
    rw [ea]
    by_cases e : i = j
    · subst e
      rw [World.cell?_setCell_same _ _ _ (hc i hi), List.getElem_set_self]
      congr 2
      rw [UInt8.toNat_ofNat']
      omega
    · rw [World.cell?_setCell_other _ _ _ _ (by intro h; injection h with _ h; exact e h), hc j hj, List.getElem_set_ne e]
      congr 2
      unfold bt
      rw [Int.toNat_natCast, dif_pos hj]
      rfl)
  rw [hl] at h
  exact h
end Go.Proofs.Ytigibdkgimgknaa.By
