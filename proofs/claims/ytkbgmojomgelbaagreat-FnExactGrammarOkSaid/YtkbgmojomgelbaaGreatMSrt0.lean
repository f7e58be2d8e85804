import Derived.Test.YtkbgmojomgelbaaGreatProg
import Derived.Sort.AssemblyPlain
import Derived.Sort.Row
import Derived.Below
import Derived.WalkKit
import Derived.BigGuard
import Derived.BigCall
import Derived.CellFam
import Derived.Deep.Draws
import Derived.Deep.QuietTactic
import Derived.BigQuiet
import Derived.Deep.LoopGhost
import Derived.Laws.AppendOwn
set_option linter.unusedVariables false
set_option linter.unusedSimpArgs false
namespace Go.Proofs.YtkbgmojomgelbaaGreat.Srt
open Go.RowKit Go.Sort
structure Rw (w0 w : World) (blk off : Nat) (d : Array Int) : Prop where
  grown : w0.grownBy w (some blk)
  holds : Holds (Value.int .u8) w blk off d
  shape : ∀ cur e fr, w0.heap[blk]? = some (.cells cur e fr) → ∃ cur', w.heap[blk]? = some (.cells cur' e fr) ∧ cur'.size = cur.size
  lt : blk < w0.heap.size
variable {w0 w w1 w2 : World} {blk off : Nat} {d d1 d2 : Array Int}
theorem Rw.refl (hH : Holds (Value.int .u8) w blk off d) (hb : blk < w.heap.size) : Rw w w blk off d := ⟨⟨rfl, rfl, rfl, Nat.le_refl _, fun _ _ _ => rfl⟩, hH, fun cur e fr h => ⟨cur, h, rfl⟩, hb⟩
theorem Rw.ltw (h : Rw w0 w blk off d) : blk < w.heap.size := Nat.lt_of_lt_of_le h.lt h.grown.size
theorem Rw.trans (h1 : Rw w0 w1 blk off d1) (h2 : Rw w1 w2 blk off d2) : Rw w0 w2 blk off d2 where
  grown := ⟨h2.grown.os.trans h1.grown.os, h2.grown.tape.trans h1.grown.tape, h2.grown.output.trans h1.grown.output, Nat.le_trans h1.grown.size h2.grown.size, fun k hk hr => (h2.grown.block k (Nat.lt_of_lt_of_le hk h1.grown.size) hr).trans (h1.grown.block k hk hr)⟩
  holds := h2.holds
  shape := fun cur e fr h => by
    obtain ⟨c1, e1, s1⟩ := h1.shape cur e fr h
    obtain ⟨c2, e2, s2⟩ := h2.shape c1 e fr e1
    exact ⟨c2, e2, by omega⟩
  lt := h1.lt
theorem holds_block (hH : Holds (Value.int .u8) w blk off d) (hb : w1.heap[blk]? = w.heap[blk]?) : Holds (Value.int .u8) w1 blk off d := fun j hj => by
  obtain ⟨h1, h2⟩ := hH j hj
  refine ⟨?_, ?_⟩
  · rw [← h1]; unfold World.cell?; rw [hb]
  · rw [← h2]; unfold World.frozen?; rw [hb]
theorem Rw.below (h : Rw w0 w blk off d) (hb : Below w.heap.size w w1) : Rw w0 w1 blk off d where
  grown := ⟨hb.os.trans h.grown.os, hb.tape.trans h.grown.tape, hb.output.trans h.grown.output, Nat.le_trans h.grown.size hb.size, fun k hk hr => (hb.block k (Nat.lt_of_lt_of_le hk h.grown.size)).trans (h.grown.block k hk hr)⟩
  holds := holds_block h.holds (hb.block blk h.ltw)
  shape := fun cur e fr hc => by
    obtain ⟨c1, e1, s1⟩ := h.shape cur e fr hc
    exact ⟨c1, (hb.block blk h.ltw).trans e1, s1⟩
  lt := h.lt
theorem Rw.drew (h : Rw w0 w blk off d) : Rw w0 w.drew blk off d := h.below ⟨rfl, rfl, rfl, Nat.le_refl _, fun _ _ => rfl⟩
theorem Rw.drewN (h : Rw w0 w blk off d) (n : Nat) : Rw w0 (w.drewN n) blk off d := h.below ⟨rfl, rfl, rfl, Nat.le_refl _, fun _ _ => rfl⟩
theorem Rw.put (h : Rw w0 w blk off d) (hs : d1.size = d.size) : Rw w0 (putRow (Value.int .u8) w blk off d1) blk off d1 where
  grown := ⟨h.grown.os, h.grown.tape, h.grown.output, by rw [size_putRow]; exact h.grown.size, fun k hk hr => by
    have hne : blk ≠ k := fun e => hr (by rw [e])
    refine Eq.trans ?_ (h.grown.block k hk hr)
    show (w.heap.modify blk _)[k]? = _
    rw [Array.getElem?_modify, if_neg hne]⟩
  holds := holds_putRow _ _ _ _ d d1 h.holds hs
  shape := fun cur e fr hc => by
    obtain ⟨c1, e1, s1⟩ := h.shape cur e fr hc
    refine ⟨putCells (Value.int .u8) off d1 c1, ?_, ?_⟩
    · show (w.heap.modify blk _)[blk]? = _
      rw [Array.getElem?_modify, if_pos rfl, e1]
      rfl
    · rw [← s1]; simp [putCells]
  lt := h.lt
theorem Rw.swap (h : Rw w0 w blk off d) (i j : Nat) (hi : i < d.size) (hj : j < d.size) :
    Rw w0 ((w.setCell ⟨blk, off + i, none⟩ (.int .u8 d[j]!)).setCell ⟨blk, off + j, none⟩ (.int .u8 d[i]!)) blk off (swp d i j) := by
  have e : w = putRow (Value.int .u8) w blk off d := (putRow_self _ _ _ _ _ h.holds).symm
  have e2 := putRow_swp (Value.int .u8) w blk off d i j hi hj
  rw [← e] at e2
  rw [e2]
  exact h.put (size_swp d i j)
theorem Rw.cells (h : Rw w0 w blk off d) : ∀ t, t < d.size → w.cell? ⟨blk, off + t, none⟩ = some (.int .u8 d[t]!) := fun t ht => (h.holds t ht).1
theorem Rw.free (h : Rw w0 w blk off d) : ∀ t, t < d.size → w.frozen? ⟨blk, off + t, none⟩ = false := fun t ht => (h.holds t ht).2
end Go.Proofs.YtkbgmojomgelbaaGreat.Srt
