/- Library functions told by contracts: the plain form that this prover's print takes. -/
import Derived.Test.YtkbgmojomgelbaaDoorMShelf
import Derived.Test.YtkbgmojomgelbaaDoorMWords
set_option linter.unusedVariables false
namespace Go.Proofs.YtkbgmojomgelbaaDoorW.PrintWords
open Go.RowKit

/-- What memory holds of the library's tables, from the start on. -/
def Tb (w : World) : Prop := (Lib.TabIs Tryd.prog w "internal/strconv.uint64pow10" .u64 Lib.pow10Tab) ∧ ((∃ ev : Value, w.cell? ⟨0, 0, none⟩ = some ev ∧ (ev = .nilIface ∨ ∃ te pe, ev = .iface te pe)) ∧ (∃ ev : Value, w.cell? ⟨1, 0, none⟩ = some ev ∧ (ev = .nilIface ∨ ∃ te pe, ev = .iface te pe)))
theorem var_below {P : Program} {w w' : World} {name : String} {cs : Array Value} (h : w.var? P name = some cs) (hb : Below w.heap.size w w') : w'.var? P name = some cs := by
  unfold World.var? at h ⊢
  cases hg : P.globalNamed name with
  | none => rw [hg] at h; simp at h
  | some g =>
    rw [hg] at h
    simp only [Option.bind_some] at h ⊢
    have hlt : g < w.heap.size := by
      rcases Nat.lt_or_ge g w.heap.size with hl | hl
      · exact hl
      · exfalso
        rw [Array.getElem?_eq_none hl] at h
        simp at h
    rw [hb.block g hlt]
    exact h
theorem Tb.below {w w' : World} (h : Tb w) (hb : Below w.heap.size w w') : Tb w' := ⟨var_below h.1 hb, (let ⟨⟨e1, p1, q1⟩, ⟨e2, p2, q2⟩⟩ := h.2; ⟨⟨e1, (hb.cell (World.block_lt_of_cell? w _ p1)).trans p1, q1⟩, ⟨e2, (hb.cell (World.block_lt_of_cell? w _ p2)).trans p2, q2⟩⟩)⟩
theorem Tb.pow10 {w : World} (h : Tb w) : Lib.TabIs Tryd.prog w "internal/strconv.uint64pow10" .u64 Lib.pow10Tab := h.1
theorem Tb.aterr {w : World} (h : Tb w) : (∃ ev : Value, w.cell? ⟨0, 0, none⟩ = some ev ∧ (ev = .nilIface ∨ ∃ te pe, ev = .iface te pe)) ∧ (∃ ev : Value, w.cell? ⟨1, 0, none⟩ = some ev ∧ (ev = .nilIface ∨ ∃ te pe, ev = .iface te pe)) := h.2

def strconv_Itoa.f (a0 : Int) : Option ByteArray := if -9223372036854775808 ≤ a0 then (if a0 ≤ 9223372036854775807 then some ⟨(Lib.itoa a0).toArray⟩ else none) else none
theorem strconv_Itoa.calls (a0 : Int) (r : ByteArray) (w : World) (htab_ : Tb w) (h : strconv_Itoa.f a0 = some r) :
    Calls Tryd.prog 22 #[.int .i64 a0] w fun e w' => e = .returned (.string r) ∧ Below w.heap.size w w' := by
  unfold strconv_Itoa.f at h
  by_cases h0 : -9223372036854775808 ≤ a0
  · rw [if_pos h0] at h
    by_cases h1 : a0 ≤ 9223372036854775807
    · rw [if_pos h1] at h
      obtain rfl := Option.some.inj h
      refine (Tryd.strconv_Itoa a0 h0 h1 w (Tb.pow10 htab_)).mono ?_
      rintro e w' ⟨rfl, k, os, rfl⟩
      refine ⟨rfl, rfl, rfl, rfl, ?_, fun b hb => ?_⟩
      · show w.heap.size ≤ (w.heap ++ os).size
        rw [Array.size_append]; omega
      · show (w.heap ++ os)[b]? = _
        rw [Array.getElem?_append_left hb]
    · rw [if_neg h1] at h; cases h
  · rw [if_neg h0] at h; cases h

/-- strconv.Atoi: a number and no error, or an error that is not nil. -/
theorem strconv_Atoi.two (s : ByteArray) (hlim : s.size ≤ 281474976710656) (w : World) (htab_ : Tb w) :
    Calls Tryd.prog 18 #[.string s] w fun e w' => ((∃ v, Lib.atoiAll s.data.toList = .ok v ∧ e = .returned (.tuple #[.int .i64 v, .nilIface])) ∨ ((∀ v, Lib.atoiAll s.data.toList ≠ .ok v) ∧ ∃ v te pe, e = .returned (.tuple #[.int .i64 v, .iface te pe]))) ∧ Below w.heap.size w w' := by
  obtain ⟨⟨e1, p1, q1⟩, ⟨e2, p2, q2⟩⟩ := Tb.aterr htab_
  cases hc : Lib.atoiAll s.data.toList with
  | ok v =>
    refine (Tryd.strconv_Atoi_ok s (by omega) v hc w).mono ?_
    rintro e w' ⟨rfl, hw⟩
    refine ⟨.inl ⟨v, rfl, rfl⟩, ?_⟩
    rcases hw with rfl | ⟨t, rfl⟩
    · exact Below.refl _ _
    · exact Lib.bytesWorld_below _ _ _
  | «syntax» =>
    refine (Tryd.strconv_Atoi_syntax s hlim hc e1 w p1 q1).mono ?_
    rintro e w' ⟨N, rfl, _, _, hb⟩
    exact ⟨.inr ⟨fun v h => (by cases h), _, _, _, rfl⟩, hb⟩
  | range =>
    refine (Tryd.strconv_Atoi_range s hlim hc e2 w p2 q2).mono ?_
    rintro e w' ⟨N, rfl, _, _, hb⟩
    exact ⟨.inr ⟨fun v h => (by cases h), _, _, _, rfl⟩, hb⟩

/-- Where a byte stands first in a string, or -1. -/
def strings_IndexByte.f (a0 : ByteArray) (a1 : Int) : Option (Int) := some (Go.Lib.indexByte a0.data.toList a1.toNat.toUInt8)
theorem strings_IndexByte.calls (a0 : ByteArray) (a1 : Int) (r : Int) (w : World) (h : strings_IndexByte.f a0 a1 = some r) :
    Calls Tryd.prog 27 #[.string a0, .int .u8 a1] w fun e w' => e = .returned (.int .i64 r) ∧ Drawn0 w w' := by
  refine (Tryd.strings_IndexByte a0 a1 w).mono ?_
  rintro e w' ⟨rfl, rfl⟩
  obtain rfl := Option.some.inj h
  exact ⟨rfl, by repeat (first | exact Drawn0.refl _ | apply Drawn0.step)⟩
end Go.Proofs.YtkbgmojomgelbaaDoorW.PrintWords
