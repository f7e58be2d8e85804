/- What stays of memory's shape while numbers and texts are written over numbers and texts. -/
import Derived.Test.YtnmhggdaccbbfaaProg
import Derived.Test.YtnmhggdaccbbfaaMWords
import Derived.Test.YtnmhggdaccbbfaaWLast
import Derived.Test.YtnmhggdaccbbfaaWKept
import Derived.Laws.Rows
set_option linter.unusedVariables false
namespace Go.Proofs.Ytnmhggdaccbbfaa.Shp
open Go.RowKit Go.Proofs.YtnmhggdaccbbfaaW.PrintWords Go.Proofs.YtnmhggdaccbbfaaW.PrintLast
/-- The same kind of value: itself, or a number for a number, or a text for a text. -/
def sameK (v v' : Value) : Prop := v' = v ∨ (∃ x y, v = .int .i64 x ∧ v' = .int .i64 y) ∨ (∃ s t, v = .string s ∧ v' = .string t)
theorem sameK.trans {a b c : Value} (h : sameK a b) (k : sameK b c) : sameK a c := by
  rcases h with rfl | ⟨x, y, rfl, rfl⟩ | ⟨s, t, rfl, rfl⟩
  · exact k
  · rcases k with rfl | ⟨x', y', e, rfl⟩ | ⟨s, t, e, _⟩
    · exact .inr (.inl ⟨x, y, rfl, rfl⟩)
    · exact .inr (.inl ⟨x, y', rfl, rfl⟩)
    · cases e
  · rcases k with rfl | ⟨x', y', e, _⟩ | ⟨s', t', e, rfl⟩
    · exact .inr (.inr ⟨s, t, rfl, rfl⟩)
    · cases e
    · exact .inr (.inr ⟨s, t', rfl, rfl⟩)
def Sh (W W' : World) : Prop := ∀ (g : Nat) (cur : Array Value) (e : TypeId), W.heap[g]? = some (.cells cur e (0, 0)) → ∃ cur', W'.heap[g]? = some (.cells cur' e (0, 0)) ∧ cur'.size = cur.size ∧ ∀ (j : Nat) (v : Value), cur[j]? = some v → ∃ v', cur'[j]? = some v' ∧ sameK v v'
theorem Sh.refl (W : World) : Sh W W := fun g cur e h => ⟨cur, h, rfl, fun j v hj => ⟨v, hj, .inl rfl⟩⟩
theorem Sh.trans {W W1 W2 : World} (h : Sh W W1) (k : Sh W1 W2) : Sh W W2 := by
  intro g cur e hg
  obtain ⟨c1, h1, s1, k1⟩ := h g cur e hg
  obtain ⟨c2, h2, s2, k2⟩ := k g c1 e h1
  refine ⟨c2, h2, s2.trans s1, fun j v hj => ?_⟩
  obtain ⟨v1, hv1, e1⟩ := k1 j v hj
  obtain ⟨v2, hv2, e2⟩ := k2 j v1 hv1
  exact ⟨v2, hv2, e1.trans e2⟩
theorem Sh.below {W W1 : World} (h : Below W.heap.size W W1) : Sh W W1 := by
  intro g cur e hg
  exact ⟨cur, (h.block g (blk_lt hg)).trans hg, rfl, fun j v hj => ⟨v, hj, .inl rfl⟩⟩
theorem Sh.drewN (W : World) (n : Nat) : Sh W (W.drewN n) := Sh.refl W
theorem Sh.drew (W : World) : Sh W W.drew := Sh.refl W
theorem Sh.set (W : World) (g i : Nat) (old v : Value) (hc : W.cell? ⟨g, i, none⟩ = some old) (hk : sameK old v) : Sh W (W.setCell ⟨g, i, none⟩ v) := by
  intro g' cur e hg
  by_cases hgg : g' = g
  · subst hgg
    have ho : cur[i]? = some old := by simpa [World.cell?, hg] using hc
    refine ⟨cur.setIfInBounds i v, heap_setCell_same W g' i cur e v hg, by simp, fun j u hj => ?_⟩
    by_cases hij : i = j
    · subst hij
      rw [ho] at hj
      obtain rfl := Option.some.inj hj
      obtain ⟨hlt, _⟩ := Array.getElem?_eq_some_iff.1 ho
      exact ⟨v, by rw [Array.getElem?_setIfInBounds_self_of_lt hlt], hk⟩
    · exact ⟨u, by rw [Array.getElem?_setIfInBounds_ne hij]; exact hj, .inl rfl⟩
  · exact ⟨cur, (heap_setCell_other W ⟨g, i, none⟩ g' v hgg).trans hg, rfl, fun j u hj => ⟨u, hj, .inl rfl⟩⟩
def getI : Value → Int
  | .int _ x => x
  | _ => 0
theorem int_row {W W' : World} {base : Nat} {P : Nat → Prop} {v : Value} {l : List Int} (h : Kd.R (Kd.int .i64) 3 W base P v l) (hs : Sh W W') : ∃ l' : List Int, l'.length = l.length ∧ Kd.R (Kd.int .i64) 3 W' base P v l' := by
  obtain ⟨h0, inner, ⟨hlen, ho⟩, hr⟩ := h
  rcases ho with ⟨rfl, hn⟩ | ⟨g, cap, cur, rfl, hb, hh, hnc, hcm, hcs, htk⟩
  · exact ⟨[], hn.symm, Kd.R_nil _ _ _ _ _⟩
  · obtain ⟨cur', hh', hsz, hk⟩ := hs g cur 3 hh
    have hcs1 : cur.size = cap := hcs.trans (Nat.mul_one _)
    have hint : ∀ j, j < l.length → ∃ y, cur'[j]? = some (.int .i64 y) := by
      intro j hj
      have h1 := hr.2 j l[j] (List.getElem?_eq_getElem hj)
      have h2 : (inner.drop (j * 1)).take 1 = [Value.int .i64 l[j]] := h1
      rw [Nat.mul_one] at h2
      have h3 : inner[j]? = some (Value.int .i64 l[j]) := by
        have := congrArg (fun x : List Value => x[0]?) h2
        simpa using this
      have h4 : cur[j]? = some (Value.int .i64 l[j]) := by
        rw [← htk] at h3
        rw [List.getElem?_take] at h3
        split at h3
        · rw [← Array.getElem?_toList]; exact h3
        · cases h3
      obtain ⟨v', hv', hkk⟩ := hk j _ h4
      rcases hkk with rfl | ⟨x, y, _, rfl⟩ | ⟨s, t, e, _⟩
      · exact ⟨_, hv'⟩
      · exact ⟨_, hv'⟩
      · cases e
    have hl : ((cur'.toList.take l.length).map getI).length = l.length := by
      have ha : cur'.toList.length = cur'.size := by simp
      rw [List.length_map, List.length_take]
      omega
    refine ⟨(cur'.toList.take l.length).map getI, hl, h0, encs (Value.int .i64) ((cur'.toList.take l.length).map getI), ⟨by rw [encs_length]; exact (Nat.mul_one _).symm, .inr ⟨g, cap, cur', by rw [hl], hb, hh', by omega, hcm, hsz.trans hcs, ?_⟩⟩, Kd.reps_scalar _⟩
    rw [hl]
    show List.take (l.length * 1) cur'.toList = _
    rw [Nat.mul_one]
    apply List.ext_getElem?
    intro j
    unfold encs
    rw [List.getElem?_map, List.getElem?_map, List.getElem?_take]
    by_cases hj : j < l.length
    · obtain ⟨y, hy⟩ := hint j hj
      rw [if_pos hj, Array.getElem?_toList, hy]
      rfl
    · rw [if_neg hj]
      rfl
end Go.Proofs.Ytnmhggdaccbbfaa.Shp
