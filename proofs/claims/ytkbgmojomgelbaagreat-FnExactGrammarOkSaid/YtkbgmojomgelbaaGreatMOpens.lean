import Derived.Test.YtkbgmojomgelbaaGreatWMore
import Derived.Deep.Slices
import Derived.Lib.SmallJoins
import Derived.ProofKit
namespace Go.Proofs.YtkbgmojomgelbaaGreatW.PrintWords
open Go.RowKit Go.ChangeShapes Go.WideShapes Go.Deep
structure Opens (P : Program) (T : TypeId) {α : Type} (d : Kd α) (ok : α → Prop) : Prop where
  size : P.cellsOf T = d.sz
  opn : ∀ (H : Type) (enc : TypeId × Value → H) (w : World) (spare : Nat → Bool) (held : Bool) (fuel : Nat) (cs : List Value) (x : DataW H × List MemPlace),
    DataW.trod enc P w 0 spare held fuel T cs = some x → ∃ y : α, d.K w y cs ∧ ok y
structure OpensAt (P : Program) (fs : Array Field) (_j off : Nat) {α : Type} (d : Kd α) (ok : α → Prop) : Prop where
  opn : ∀ (H : Type) (enc : TypeId × Value → H) (w : World) (spare : Nat → Bool) (held : Bool) (n : Nat) (cs : List Value) (xs : List (DataW H × List MemPlace)), xs.length = fs.size →
    (∀ (i : Nat) (f : Field), fs[i]? = some f → DataW.trod enc P w 0 spare held n f.type ((cs.drop f.offset).take (P.cellsOf f.type)) = xs[i]?) → ∃ y : α, d.K w y ((cs.drop off).take d.sz) ∧ ok y
section
variable {P : Program} {T : TypeId}
theorem opens_int {k : IntKind} (hT : P.underlying T = some (.int k)) (hc : P.cellsOf T = 1) : Opens P T (Kd.int k) (fun y => (Lit.int k y).wf = true) :=
  ⟨hc, fun H enc w spare held fuel cs x h => by
    obtain ⟨n, rfl, _, hn⟩ := DataW.trod_int hT h
    exact ⟨n, rfl, hn⟩⟩
theorem opens_string (hT : P.underlying T = some .string) (hc : P.cellsOf T = 1) : Opens P T Kd.string (fun y => y.size ≤ maxLen) :=
  ⟨hc, fun H enc w spare held fuel cs x h => by
    obtain ⟨s, rfl, _, hn⟩ := DataW.trod_string hT h
    exact ⟨s, rfl, hn⟩⟩
theorem list_of {α : Type} {p : Nat → α → Prop} : ∀ n : Nat, (∀ i, i < n → ∃ y, p i y) → ∃ ys : List α, ys.length = n ∧ ∀ i y, ys[i]? = some y → p i y
  | 0, _ => ⟨[], rfl, fun i y h => by simp at h⟩
  | n + 1, h => by
    obtain ⟨ys, hl, hp⟩ := list_of n (fun i hi => h i (by omega))
    obtain ⟨y, hy⟩ := h n (by omega)
    refine ⟨ys ++ [y], by simp [hl], fun i z hz => ?_⟩
    by_cases hi : i < ys.length
    · rw [List.getElem?_append_left hi] at hz
      exact hp i z hz
    · rw [List.getElem?_append_right (by omega)] at hz
      have h0 : i - ys.length = 0 := by
        have := (List.getElem?_eq_some_iff.1 hz).1
        simp at this; omega
      rw [h0] at hz
      simp at hz
      subst hz
      rw [show i = n from by omega]
      exact hy
theorem opens_slice {α : Type} {d : Kd α} {ok : α → Prop} {e : TypeId} (hT : P.underlying T = some (.slice e)) (hc : P.cellsOf T = 1) (he : Opens P e d ok) :
    Opens P T (Kd.slice e d) (fun ys => (∀ y ∈ ys, ok y) ∧ ys.length ≤ maxLen) := by
  refine ⟨hc, fun H enc w spare held fuel cs x h => ?_⟩
  rcases open_slice hT h with ⟨rfl, _⟩ | ⟨a, len, cap, m, n, D, Pl, rfl, _, hl, hm, hmm, _, hx⟩
  · exact ⟨[], ⟨none, 0, rfl, Nat.le_refl _, rfl, by simp, fun h => absurd h (by simp)⟩, by simp, by simp⟩
  · have hle : len ≤ m := by rw [hmm]; split <;> omega
    obtain ⟨ys, hyl, hy⟩ := list_of (p := fun i y => ok y ∧ ∃ c : List Value, c.length = d.sz ∧ d.K w y c ∧ ∀ j u, c[j]? = some u → w.cell? (a.add (i * d.sz + j)) = some u) len (fun i hi => by
      obtain ⟨c, h1, h2⟩ := hx i (by omega)
      obtain ⟨y, hk, ho⟩ := he.2 H enc w spare held n c _ h2
      obtain ⟨_, h4, h5⟩ := World.cells?_some h1
      rw [he.1] at h4 h5
      refine ⟨y, ho, c, h4, hk, fun j u hu => ?_⟩
      have hj := (List.getElem?_eq_some_iff.1 hu).1
      have h6 := h5 j (by omega)
      rw [add_add, hu] at h6
      exact h6)
    refine ⟨ys, ⟨some a, cap, by rw [hyl], by omega, rfl, by rw [hyl]; unfold maxLen at hm; omega, fun _ => ⟨a, rfl, fun j p hp => (hy j p hp).2⟩⟩, fun y hmem => ?_, by omega⟩
    obtain ⟨i, hi⟩ := List.mem_iff_getElem?.1 hmem
    exact (hy i y hi).1
theorem opensAt_one {α : Type} {d : Kd α} {ok : α → Prop} {fs : Array Field} {j off : Nat} {f : Field} (hf : fs[j]? = some f) (ho : f.offset = off) (h : Opens P f.type d ok) : OpensAt P fs j off d ok := by
  refine ⟨fun H enc w spare held n cs xs hl hx => ?_⟩
  have hj := (Array.getElem?_eq_some_iff.1 hf).1
  have h1 := hx j f hf
  rw [List.getElem?_eq_getElem (by omega), ho, h.1] at h1
  exact h.2 H enc w spare held n _ _ h1
theorem opensAt_more {α β : Type} {a : Kd α} {b : Kd β} {oka : α → Prop} {okb : β → Prop} {fs : Array Field} {j off : Nat} {f : Field} (hf : fs[j]? = some f) (ho : f.offset = off) (h : Opens P f.type a oka)
    (h2 : OpensAt P fs (j + 1) (off + a.sz) b okb) : OpensAt P fs j off (Kd.pair a b) (fun y => oka y.1 ∧ okb y.2) := by
  refine ⟨fun H enc w spare held n cs xs hl hx => ?_⟩
  obtain ⟨y, hy, oy⟩ := (opensAt_one hf ho h).opn H enc w spare held n cs xs hl hx
  obtain ⟨z, hz, oz⟩ := h2.opn H enc w spare held n cs xs hl hx
  refine ⟨(y, z), ⟨_, _, ?_, hy, hz⟩, oy, oz⟩
  show (cs.drop off).take (a.sz + b.sz) = _
  rw [List.take_add, List.drop_drop]
theorem opens_struct {α : Type} {d : Kd α} {ok : α → Prop} {fs : Array Field} (hT : P.underlying T = some (.struct fs)) (hc : P.cellsOf T = d.sz) (h : OpensAt P fs 0 0 d ok) : Opens P T d ok := by
  refine ⟨hc, fun H enc w spare held fuel cs x hx => ?_⟩
  obtain ⟨xs, n, _, _, hl, hn, hf⟩ := DataW.trod_struct hT hx
  obtain ⟨y, hy, oy⟩ := h.opn H enc w spare held n cs xs hn hf
  rw [List.drop_zero, List.take_of_length_le (by omega)] at hy
  exact ⟨y, hy, oy⟩
theorem opens_iso {α β : Type} {d : Kd α} {ok : α → Prop} {f : β → α} (hf : ∀ z, ∃ y, f y = z) (h : Opens P T d ok) : Opens P T (Kd.iso d f) (fun y => ok (f y)) := by
  refine ⟨h.1, fun H enc w spare held fuel cs x hx => ?_⟩
  obtain ⟨z, hz, oz⟩ := h.2 H enc w spare held fuel cs x hx
  obtain ⟨y, rfl⟩ := hf z
  exact ⟨y, hz, oz⟩
theorem opens_param1 {α : Type} {d : Kd α} {ok : α → Prop} {t e : TypeId} {f0 : Field} {H : Type} {enc : TypeId × Value → H} {w : World} {spare : Nat → Bool} {held : Bool} {v : Value} {x : DataW H} {p : List MemPlace}
    {r : Reach} {b0 : Nat} (hs : P.underlying T = some (.struct #[f0])) (hC : P.cellsOf T = 1) (ho : f0.offset = 0) (hft : f0.type = t)
    (hT : P.underlying t = some (.slice e)) (hc : P.cellsOf t = 1) (he : Opens P e d ok) (hv : Value.okWide P w r b0 T v) (h : DataW.Trod enc P w 0 spare held T v x p) :
    ∃ (A : Option Addr) (c : Nat) (ys : List α), v = .agg #[.slice A ys.length c] ∧ ys.length ≤ c ∧ d.C w A ys.length ys ∧ (∀ y ∈ ys, ok y) ∧ ys.length ≤ maxLen := by
  obtain ⟨cs, rfl, hsz⟩ := okWide_struct hs hv
  obtain ⟨fuel, hf⟩ := h
  obtain ⟨xs, n, _, _, hl, hn, hfs⟩ := DataW.trod_struct hs hf
  have h1 := hfs 0 f0 rfl
  have hx0 : 0 < xs.length := by rw [hn]; simp
  rw [List.getElem?_eq_getElem hx0, ho, hft, hc, List.drop_zero] at h1
  obtain ⟨ys, ⟨A, c, hcs, hl2, hC2⟩, ho2, hm⟩ := (opens_slice hT hc he).2 H enc w spare held n _ _ h1
  have hz : cs.size = 1 := hsz.trans hC
  obtain ⟨v0, rfl⟩ : ∃ v0, cs = #[v0] := by
    have : cs.toList.length = 1 := by simpa using hz
    match hl : cs.toList, this with
    | [v0], _ => exact ⟨v0, by rw [← Array.toArray_toList (xs := cs), hl]⟩
  simp [Value.cells] at hcs
  subst hcs
  exact ⟨A, c, ys, rfl, hl2, hC2, ho2, hm⟩
end
end Go.Proofs.YtkbgmojomgelbaaGreatW.PrintWords
