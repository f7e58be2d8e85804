import Derived.Test.YtkbgmojomgelbaaGreatMShelf
import Derived.Test.YtkbgmojomgelbaaGreatMWords
import Derived.Test.YtkbgmojomgelbaaGreatWLast
import Derived.Test.YtkbgmojomgelbaaGreatWN
import Derived.Shelf.Slices.CompactS
set_option linter.unusedVariables false
set_option linter.unusedSimpArgs false
namespace Go.Proofs.YtkbgmojomgelbaaGreat.SSrt
open Go.RowKit Go.Sort Go.Proofs.YtkbgmojomgelbaaGreatW.PrintWords Go.Proofs.YtkbgmojomgelbaaGreatW.PrintLast
def s2l (s : ByteArray) : List UInt8 := s.data.toList
def l2s (l : List UInt8) : ByteArray := ⟨l.toArray⟩
theorem l2s_s2l (s : ByteArray) : l2s (s2l s) = s := by cases s; simp [l2s, s2l]
theorem s2l_l2s (l : List UInt8) : s2l (l2s l) = l := by simp [l2s, s2l]
def ssort (l : List ByteArray) : List ByteArray := ((l.map s2l).mergeSort fun x y => decide (x ≤ y)).map l2s
def scomp (l : List ByteArray) : List ByteArray := (Lib.compact (l.map s2l)).map l2s
theorem ssort_length (l : List ByteArray) : (ssort l).length = l.length := by unfold ssort; rw [List.length_map, List.length_mergeSort, List.length_map]
theorem own_row {w : World} {base : Nat} {P : Nat → Prop} {u : Value} {xs : List ByteArray} (h : Kd.R Kd.string 9 w base P u xs) : (u = .slice none 0 0 ∧ xs = []) ∨
    ∃ (g cap : Nat) (cur : Array Value), u = .slice (some ⟨g, 0, none⟩) xs.length cap ∧ base ≤ g ∧ P g ∧ Holds encStr w g 0 (xs.map s2l).toArray ∧ w.heap[g]? = some (.cells cur 9 (0, 0)) ∧ cur.size = cap ∧ xs.length ≤ cap ∧ cap ≤ maxLen := by
  have h' := h
  obtain ⟨h0, inner, ⟨ho1, ho2⟩, hr⟩ := h
  rcases ho2 with ⟨hv, hn⟩ | ⟨g, cap, cur, hv, hb, hh, hnc, hcm, hcs, ht⟩
  · exact .inl ⟨hv, List.length_eq_zero_iff.1 hn⟩
  · subst hv
    refine .inr ⟨g, cap, cur, rfl, hb, h0 g rfl, fun j hj => ?_, hh, by rw [hcs]; exact Nat.mul_one cap, hnc, hcm⟩
    have hj2 : j < xs.length := by simpa using hj
    obtain ⟨c, hcl, hM, hcell, hfr⟩ := Kd.R_elem h' ByteArray.empty (j : Int) (by omega) (by omega)
    rw [Int.toNat_natCast] at hM hcell hfr
    have hc : c = [.string (xs.getD j ByteArray.empty)] := hM
    subst hc
    have e1 : w.cell? ⟨g, j * 1 + 0, none⟩ = some (.string (xs.getD j ByteArray.empty)) := hcell 0 _ rfl
    have e2 : w.frozen? ⟨g, j * 1 + 0, none⟩ = false := hfr 0
    rw [show j * 1 + 0 = 0 + j from by omega] at e1 e2
    refine ⟨?_, e2⟩
    rw [e1, List.getD_eq_getElem?_getD, List.getElem?_eq_getElem hj2, Option.getD_some]
    have e3 : (xs.map s2l).toArray[j]! = s2l xs[j] := by simp [hj2]
    rw [e3]
    show some (Value.string xs[j]) = some (Value.string (l2s (s2l xs[j])))
    rw [l2s_s2l]
theorem row_own {w' : World} {base g cap : Nat} {P : Nat → Prop} {cur : Array Value} {d : List (List UInt8)} {ys : List ByteArray} (hb : base ≤ g) (hP : P g) (hh : w'.heap[g]? = some (.cells cur 9 (0, 0))) (hs : cur.size = cap) (hn : ys.length ≤ cap) (hc : cap ≤ maxLen) (hd : ∀ j, j < ys.length → cur[j]? = some (.string (ys.getD j ByteArray.empty))) :
    Kd.R Kd.string 9 w' base P (.slice (some ⟨g, 0, none⟩) ys.length cap) ys := by
  refine ⟨fun k hk => ?_, encs Value.string ys, ⟨by rw [encs_length]; exact (Nat.mul_one _).symm, .inr ⟨g, cap, cur, rfl, hb, hh, hn, hc, ?_, ?_⟩⟩, Kd.reps_scalar ys⟩
  · have : g = k := by simpa [Value.ownBlock] using hk
    subst this; exact hP
  · rw [hs]; exact (Nat.mul_one cap).symm
  · apply List.ext_getElem?
    intro j
    show (cur.toList.take (ys.length * 1))[j]? = (encs Value.string ys)[j]?
    rw [Nat.mul_one, List.getElem?_take]
    by_cases hj : j < ys.length
    · rw [if_pos hj, Array.getElem?_toList, hd j hj]
      simp [encs, hj]
    · rw [if_neg hj, List.getElem?_eq_none (by simp [encs]; omega)]
theorem put_heap (w : World) (g n : Nat) (d : Array (List UInt8)) (cur : Array Value) (e : Nat) (fr : Nat × Nat) (hh : w.heap[g]? = some (.cells cur e fr)) : (putRow encStr (Sort.ahead w n) g 0 d).heap[g]? = some (.cells (putCells encStr 0 d cur) e fr) := by
  show (w.heap.modify g _)[g]? = _
  rw [Array.getElem?_modify, if_pos rfl, hh]
  rfl
theorem put_other (w : World) (g n : Nat) (d : Array (List UInt8)) (k : Nat) (hk : k ≠ g) : (putRow encStr (Sort.ahead w n) g 0 d).heap[k]? = w.heap[k]? := by
  show (w.heap.modify g _)[k]? = _
  rw [Array.getElem?_modify, if_neg (fun e => hk e.symm)]
theorem put_size (w : World) (g n : Nat) (d : Array (List UInt8)) : (putRow encStr (Sort.ahead w n) g 0 d).heap.size = w.heap.size := by
  show (w.heap.modify g _).size = _
  rw [Array.size_modify]
theorem put_grown (w : World) (g n : Nat) (d : Array (List UInt8)) (os : Array Obj) : w.grownBy (grow (putRow encStr (Sort.ahead w n) g 0 d) os) (some g) := by
  refine ⟨rfl, rfl, rfl, ?_, fun k hk hr => ?_⟩
  · show w.heap.size ≤ ((putRow encStr (Sort.ahead w n) g 0 d).heap ++ os).size
    rw [Array.size_append, put_size]; omega
  · show ((putRow encStr (Sort.ahead w n) g 0 d).heap ++ os)[k]? = _
    rw [Array.getElem?_append_left (by rw [put_size]; exact hk), put_other _ _ _ _ _ (fun e => hr (by rw [e]))]
theorem put_cell (cur : Array Value) (d : Array (List UInt8)) (j : Nat) (hj : j < d.size) (hc : d.size ≤ cur.size) : (putCells encStr 0 d cur)[j]? = some (encStr d[j]!) := by
  unfold putCells
  rw [Array.getElem?_mapIdx, Array.getElem?_eq_getElem (by omega), Option.map_some, if_pos ⟨Nat.zero_le _, by omega⟩, Nat.sub_zero]
theorem put_csize (cur : Array Value) (d : Array (List UInt8)) : (putCells encStr 0 d cur).size = cur.size := by unfold putCells; rw [Array.size_mapIdx]
theorem sort_own (P0_ : Nat → Prop) (u_ : Value) (l0 : List ByteArray) (w0 w : World) (hB : Below w0.heap.size w0 w) (ho0 : Kd.R Kd.string 9 w w0.heap.size P0_ u_ l0) (hl : l0.length < 4611686018427387904) :
    Calls Tryz.prog 123 #[u_] w fun e w' => e = .returned (.tuple #[]) ∧ Kd.R Kd.string 9 w' w0.heap.size (fun k_ => (P0_ k_ ∨ w.heap.size ≤ k_)) u_ (ssort l0) ∧ Below w0.heap.size w0 w' ∧ Kept w w' (fun k_ => P0_ k_) := by
  rcases own_row ho0 with ⟨rfl, rfl⟩ | ⟨g, cap, cur, rfl, hb, hP, hH, hh, hs, hn, hc⟩
  · refine (Tryz.slices_Sort_string_none none 0 w).mono ?_
    rintro e w' ⟨rfl, rfl⟩
    exact ⟨rfl, by rw [show ssort [] = [] from by simp [ssort]]; exact Kd.R_nil _ _ _ _ _, hB, Kept.refl _ _⟩
  · have hg : g < w.heap.size := by
      rcases Nat.lt_or_ge g w.heap.size with h | h
      · exact h
      · rw [Array.getElem?_eq_none h] at hh; cases hh
    have hcon := Tryz.slices_Sort_string g 0 cap (l0.map s2l) w hH hg (by rw [List.length_map]; exact hl)
    rw [List.length_map] at hcon
    refine hcon.mono ?_
    rintro e w' ⟨rfl, n, os, rfl⟩
    have hG := put_grown w g n ((l0.map s2l).mergeSort fun x y => decide (x ≤ y)).toArray os
    have hsz : ((l0.map s2l).mergeSort fun x y => decide (x ≤ y)).toArray.size = l0.length := by simp [List.length_mergeSort]
    have e : (Value.slice (some ⟨g, 0, none⟩) l0.length cap) = .slice (some ⟨g, 0, none⟩) (ssort l0).length cap := by rw [ssort_length]
    refine ⟨rfl, ?_, ?_, Kept.of_grown hG (Kept.refl w _) (fun k hk => ?_)⟩
    · rw [e]
      refine row_own (d := []) (cur := putCells encStr 0 ((l0.map s2l).mergeSort fun x y => decide (x ≤ y)).toArray cur) hb (.inl hP) ?_ (by rw [put_csize]; exact hs) (by rw [ssort_length]; exact hn) hc (fun j hj => ?_)
      · show ((putRow encStr (Sort.ahead w n) g 0 _).heap ++ os)[g]? = _
        rw [Array.getElem?_append_left (by rw [put_size]; exact hg)]
        exact put_heap _ _ _ _ _ _ _ hh
      · rw [ssort_length] at hj
        rw [put_cell _ _ _ (by rw [hsz]; exact hj) (by rw [hsz, hs]; exact hn)]
        have hj2 : j < ((l0.map s2l).mergeSort fun x y => decide (x ≤ y)).length := by simpa [List.length_mergeSort] using hj
        have e3 : (((l0.map s2l).mergeSort fun x y => decide (x ≤ y)).toArray)[j]! = ((l0.map s2l).mergeSort fun x y => decide (x ≤ y))[j] := by rw [getElem!_pos _ j (by simpa using hj2)]; rfl
        rw [e3]
        unfold ssort
        rw [List.getD_eq_getElem?_getD, List.getElem?_map, List.getElem?_eq_getElem hj2]
        rfl
    · exact ⟨hG.os.trans hB.os, hG.tape.trans hB.tape, hG.output.trans hB.output, Nat.le_trans hB.size hG.size, fun k hk => (hG.block k (Nat.lt_of_lt_of_le hk hB.size) (fun e => by injection e with e; omega)).trans (hB.block k hk)⟩
    · injection hk with hk; subst hk; exact .inl hP
theorem comp_le (l : List (List UInt8)) : (Lib.compact l).length ≤ l.length := by
  first
  | exact Lib.compact_length_le l
  | exact Lib.length_compact_le l
  | exact Lib.compact_length l
theorem compact_own (P0_ : Nat → Prop) (u_ : Value) (l0 : List ByteArray) (w0 w : World) (hB : Below w0.heap.size w0 w) (ho0 : Kd.R Kd.string 9 w w0.heap.size P0_ u_ l0) (hl : l0.length < 4611686018427387904) :
    Calls Tryz.prog 124 #[u_] w fun e w' => ∃ v0_ : Value, e = .returned v0_ ∧ Kd.R Kd.string 9 w' w0.heap.size (fun k_ => (P0_ k_ ∨ w.heap.size ≤ k_)) v0_ (scomp l0) ∧ Below w0.heap.size w0 w' ∧ Kept w w' (fun k_ => P0_ k_) := by
  rcases own_row ho0 with ⟨rfl, rfl⟩ | ⟨g, cap, cur, rfl, hb, hP, hH, hh, hs, hn, hc⟩
  · refine (Tryz.slices_Compact_string_empty none 0 w).mono ?_
    rintro e w' ⟨rfl, rfl⟩
    exact ⟨_, rfl, by rw [show scomp [] = [] from by simp [scomp, Lib.compact, Lib.compactUpTo]]; exact Kd.R_nil _ _ _ _ _, hB, Kept.refl _ _⟩
  · have hg : g < w.heap.size := by
      rcases Nat.lt_or_ge g w.heap.size with h | h
      · exact h
      · rw [Array.getElem?_eq_none h] at hh; cases hh
    have hcon := Tryz.slices_Compact_string g 0 cap (l0.map s2l) w hH (by rw [List.length_map]; omega) (by rw [List.length_map]; exact hn)
    rw [List.length_map] at hcon
    refine hcon.mono ?_
    rintro e w' ⟨rfl, n, rfl⟩
    have hle := comp_le (l0.map s2l)
    rw [List.length_map] at hle
    generalize hd : (Lib.compact (l0.map s2l) ++ List.replicate (l0.length - (Lib.compact (l0.map s2l)).length) []).toArray = d
    have hds : d.size = l0.length := by rw [← hd]; simp; omega
    have hG := put_grown w g n d #[]
    rw [grow_empty] at hG
    refine ⟨_, rfl, ?_, ?_, Kept.of_grown hG (Kept.refl w _) (fun k hk => ?_)⟩
    · have e : (Value.slice (some ⟨g, 0, none⟩) (Lib.compact (l0.map s2l)).length cap) = .slice (some ⟨g, 0, none⟩) (scomp l0).length cap := by unfold scomp; rw [List.length_map]
      rw [e]
      refine row_own (d := []) (cur := putCells encStr 0 d cur) hb (.inl hP) (put_heap _ _ _ _ _ _ _ hh) (by rw [put_csize]; exact hs) (by unfold scomp; rw [List.length_map]; omega) hc (fun j hj => ?_)
      have hj2 : j < (Lib.compact (l0.map s2l)).length := by unfold scomp at hj; rwa [List.length_map] at hj
      rw [put_cell _ _ _ (by omega) (by omega)]
      have e3 : d[j]! = (Lib.compact (l0.map s2l))[j] := by
        rw [← hd, getElem!_pos _ j (by simp; omega)]
        simp only [List.getElem_toArray]
        rw [List.getElem_append_left hj2]
      rw [e3]
      unfold scomp
      rw [List.getD_eq_getElem?_getD, List.getElem?_map, List.getElem?_eq_getElem hj2]
      rfl
    · exact ⟨hG.os.trans hB.os, hG.tape.trans hB.tape, hG.output.trans hB.output, Nat.le_trans hB.size hG.size, fun k hk => (hG.block k (Nat.lt_of_lt_of_le hk hB.size) (fun e => by injection e with e; omega)).trans (hB.block k hk)⟩
    · injection hk with hk; subst hk; exact .inl hP
end Go.Proofs.YtkbgmojomgelbaaGreat.SSrt
