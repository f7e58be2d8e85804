import Derived.Test.YtkbgmojomgelbaaMShelf
import Derived.Test.YtkbgmojomgelbaaMWords
import Derived.Test.YtkbgmojomgelbaaWLast
import Derived.Test.YtkbgmojomgelbaaWKept
set_option linter.unusedVariables false
set_option linter.unusedSimpArgs false
namespace Go.Proofs.Ytkbgmojomgelbaa.Jn
open Go.RowKit Go.Proofs.YtkbgmojomgelbaaW.PrintWords Go.Proofs.YtkbgmojomgelbaaW.PrintLast
theorem join_own (P0_ : Nat → Prop) (u_ : Value) (l0 : List ByteArray) (a1 : ByteArray) (w0 w : World) (hB : Below w0.heap.size w0 w) (ho0 : Kd.R Kd.string 9 w w0.heap.size P0_ u_ l0) (hl : l0.length ≤ 140737488355328) (hs : (Lib.join (l0.map (·.data.toList)) a1.data.toList).length ≤ 140737488355328) :
    Calls Try.prog 19 #[u_, .string a1] w fun e w' => e = .returned (.string ⟨(Lib.join (l0.map (·.data.toList)) a1.data.toList).toArray⟩) ∧ Kd.R Kd.string 9 w' w0.heap.size (fun k_ => (P0_ k_ ∨ w.heap.size ≤ k_)) u_ l0 ∧ Below w0.heap.size w0 w' ∧ Kept w w' (fun k_ => P0_ k_) := by
  have hfin : ∀ w', Below w.heap.size w w' → Kd.R Kd.string 9 w' w0.heap.size (fun k_ => (P0_ k_ ∨ w.heap.size ≤ k_)) u_ l0 ∧ Below w0.heap.size w0 w' ∧ Kept w w' (fun k_ => P0_ k_) := fun w' hb =>
    ⟨Kd.R_mono (Kd.R_below ho0 hb) (fun k hk => .inl hk), hB.trans (hb.mono hB.size), Kept.of_below hb _⟩
  have h' := ho0
  obtain ⟨h0, inner, ⟨ho1, ho2⟩, hr⟩ := ho0
  rcases ho2 with ⟨hv, hn⟩ | ⟨g, cap, cur, hv, hb, hh, hnc, hcm, hcs, ht⟩
  · subst hv
    obtain rfl := List.length_eq_zero_iff.1 hn
    refine (Try.strings_Join_none none 0 a1 w).mono ?_
    rintro e w' ⟨rfl, rfl⟩
    exact ⟨by simp [Lib.join], hfin _ (Below.refl _ _)⟩
  · subst hv
    have hg : g < w.heap.size := by
      rcases Nat.lt_or_ge g w.heap.size with h | h
      · exact h
      · rw [Array.getElem?_eq_none h] at hh; cases hh
    have hc : ∀ (j : Nat) y, l0[j]? = some y → w.cell? ⟨g, 0 + j, none⟩ = some (.string y) := by
      intro j y hj
      have hjl : j < l0.length := by
        rcases Nat.lt_or_ge j l0.length with hl | hl
        · exact hl
        · rw [List.getElem?_eq_none hl] at hj; cases hj
      obtain ⟨c, hcl, hM, hcell, hfr⟩ := Kd.R_elem h' ByteArray.empty (j : Int) (by omega) (by omega)
      rw [Int.toNat_natCast] at hM hcell
      have hcc : c = [.string (l0.getD j ByteArray.empty)] := hM
      subst hcc
      have e1 : w.cell? ⟨g, j * 1 + 0, none⟩ = some (.string (l0.getD j ByteArray.empty)) := hcell 0 _ rfl
      rw [show j * 1 + 0 = 0 + j from by omega, List.getD_eq_getElem?_getD, hj] at e1
      exact e1
    refine (Try.strings_Join g 0 cap l0 a1 w hc hg hl hnc hs).mono ?_
    rintro e w' ⟨rfl, hb'⟩
    exact ⟨rfl, hfin _ hb'⟩
end Go.Proofs.Ytkbgmojomgelbaa.Jn
