import Derived.Test.YtkbgmojomgelbaaGreatMSrt0
import Derived.Test.YtkbgmojomgelbaaGreatMSrt1
set_option linter.unusedVariables false
set_option linter.unusedSimpArgs false
namespace Go.Proofs.YtkbgmojomgelbaaGreat.Srt
open Go.RowKit Go.Sort
structure Sp (w w' : World) (g s : Nat) : Prop where
  grown : w.grownBy w' (some g)
  cell : w'.cell? ⟨g, 0, none⟩ = some (.int .i64 s)
  free : w'.frozen? ⟨g, 0, none⟩ = false
theorem Sp.trans {w w1 w2 : World} {g s s' : Nat} (h1 : Sp w w1 g s) (h2 : Sp w1 w2 g s') : Sp w w2 g s' where
  grown := ⟨h2.grown.os.trans h1.grown.os, h2.grown.tape.trans h1.grown.tape, h2.grown.output.trans h1.grown.output, Nat.le_trans h1.grown.size h2.grown.size, fun k hk hr => (h2.grown.block k (Nat.lt_of_lt_of_le hk h1.grown.size) hr).trans (h1.grown.block k hk hr)⟩
  cell := h2.cell
  free := h2.free
theorem Sp.holds {w w' : World} {g s blk off : Nat} {d : Array Int} (h : Sp w w' g s) (hH : Holds (Value.int .u8) w blk off d) (hb : blk < w.heap.size) (hne : blk ≠ g) : Holds (Value.int .u8) w' blk off d :=
  holds_block hH (h.grown.block blk hb (fun e => hne (by injection e)))
theorem Sp.ltw {w w' : World} {g s blk : Nat} (h : Sp w w' g s) (hb : blk < w.heap.size) : blk < w'.heap.size := Nat.lt_of_lt_of_le hb h.grown.size
theorem Sp.draws {w w' : World} {g s : Nat} (hb : Below w.heap.size w w') (hc : w.cell? ⟨g, 0, none⟩ = some (.int .i64 s)) (hf : w.frozen? ⟨g, 0, none⟩ = false) : Sp w w' g s := by
  have hg : g < w.heap.size := World.block_lt_of_cell? _ _ hc
  refine ⟨⟨hb.os, hb.tape, hb.output, hb.size, fun k hk _ => hb.block k hk⟩, ?_, ?_⟩
  · rw [← hc]; unfold World.cell?; rw [hb.block g hg]
  · rw [← hf]; unfold World.frozen?; rw [hb.block g hg]
theorem Sp.set {w : World} {g s s' : Nat} (hc : w.cell? ⟨g, 0, none⟩ = some (.int .i64 s)) (hf : w.frozen? ⟨g, 0, none⟩ = false) : Sp w (w.setCell ⟨g, 0, none⟩ (.int .i64 s')) g s' := by
  refine ⟨⟨rfl, rfl, rfl, by simp [World.setCell], fun k hk hr => ?_⟩, ?_, ?_⟩
  · exact Below.heap_setCell w ⟨g, 0, none⟩ _ k (fun e => hr (by rw [e]))
  · first | exact World.cell?_setCell_same _ _ _ hc | exact World.cell?_setCell_same _ _ hc | exact World.cell?_setCell_same _ hc
  · exact (World.frozen?_setCells g [.int .i64 s'] 0 w ⟨g, 0, none⟩).trans hf
set_option maxHeartbeats 4000000 in
theorem order (blk off cap a b n g s : Nat) (d : Array Int) (w : World) (hn : d.size = n) (hH : Holds (Value.int .u8) w blk off d) (hblk : blk < w.heap.size) (hne : blk ≠ g) (hc : w.cell? ⟨g, 0, none⟩ = some (.int .i64 s)) (hf : w.frozen? ⟨g, 0, none⟩ = false)
    (ha : a < n) (hb : b < n) (hs : s ≤ 1000) (hsz : n < 4611686018427387904) :
    Calls Tryz.prog 179 #[.slice (some ⟨blk, off, none⟩) n cap, .int .i64 a, .int .i64 b, .pointer (some ⟨g, 0, none⟩)] w fun e w' => e = .returned (.tuple #[.int .i64 ((order2 ltInt d a b s).1 : Nat), .int .i64 ((order2 ltInt d a b s).2.1 : Nat)]) ∧ Sp w w' g (order2 ltInt d a b s).2.2 := by
  obtain ⟨G, HG⟩ : ∃ G : Nat → Int, Aside (∀ t, G t = d[t]!) := ⟨fun t => d[t]!, fun _ => rfl⟩
  have hcw : ∀ t, t < n → w.cell? ⟨blk, off + t, none⟩ = some (.int .u8 (G t)) := fun t ht => by rw [HG.out]; exact (hH t (by omega)).1
  obtain ⟨r, hr⟩ : ∃ r, Aside (r = order2 ltInt d a b s) := ⟨_, rfl⟩
  rw [← hr.out]
  have HT : Aside (ltInt (G b) (G a) = true → r = (b, a, s + 1)) := fun h => by
    have e_ : r = order2 ltInt d a b s := hr.out
    rw [e_]; unfold order2; rw [HG.out, HG.out] at h; rw [if_pos h]
  have HF : Aside (ltInt (G b) (G a) = false → r = (a, b, s)) := fun h => by
    have e_ : r = order2 ltInt d a b s := hr.out
    rw [e_]; unfold order2; rw [HG.out, HG.out] at h; rw [if_neg (by rw [h]; simp)]
  clear hH hr
  go_enter Tryz.func179, Tryz.ntmps179
  go_wp2_with fail
  go_big_quiet (first | (go_at_call 149; refine Calls.quiet_of_same (less _ _ _)))
  have hcq : ∀ q, (w.drewN q).cell? ⟨g, 0, none⟩ = some (.int .i64 s) := fun q => hc
  have hfq : ∀ q, (w.drewN q).frozen? ⟨g, 0, none⟩ = false := fun q => hf
  go_wp2
  · have hl : ltInt (G b) (G a) = true := by assumption
    go_ret2
    obtain rfl := HT.out hl
    refine ⟨rfl, ?_⟩
    exact (Sp.draws (w := w) (w' := w.drewN nq) ⟨rfl, rfl, rfl, Nat.le_refl _, fun _ _ => rfl⟩ hc hf).trans (Sp.set (s' := s + 1) (hcq nq) (hfq nq))
  · have hl : ltInt (G b) (G a) = false := by assumption
    go_ret2
    obtain rfl := HF.out hl
    exact ⟨rfl, Sp.draws ⟨rfl, rfl, rfl, Nat.le_refl _, fun _ _ => rfl⟩ hc hf⟩
theorem order_bound (d : Array Int) (a b s n : Nat) (ha : a < n) (hb : b < n) : (order2 ltInt d a b s).1 < n ∧ (order2 ltInt d a b s).2.1 < n ∧ (order2 ltInt d a b s).2.2 ≤ s + 1 := by
  unfold order2
  by_cases h : ltInt d[b]! d[a]! = true
  · rw [if_pos h]; exact ⟨hb, ha, Nat.le_refl _⟩
  · rw [if_neg h]; exact ⟨ha, hb, Nat.le_succ _⟩
set_option maxHeartbeats 4000000 in
theorem median_ (blk off cap a b c n g s : Nat) (d : Array Int) (w : World) (hn : d.size = n) (hH : Holds (Value.int .u8) w blk off d) (hblk : blk < w.heap.size) (hne : blk ≠ g) (hc : w.cell? ⟨g, 0, none⟩ = some (.int .i64 s)) (hf : w.frozen? ⟨g, 0, none⟩ = false)
    (ha : a < n) (hb : b < n) (hcn : c < n) (hs : s ≤ 100) (hsz : n < 4611686018427387904) :
    Calls Tryz.prog 170 #[.slice (some ⟨blk, off, none⟩) n cap, .int .i64 a, .int .i64 b, .int .i64 c, .pointer (some ⟨g, 0, none⟩)] w fun e w' => e = .returned (.int .i64 ((median ltInt d a b c s).1 : Nat)) ∧ Sp w w' g (median ltInt d a b c s).2 ∧ (median ltInt d a b c s).1 < n ∧ (median ltInt d a b c s).2 ≤ s + 3 := by
  obtain ⟨r1, h1⟩ : ∃ r, r = order2 ltInt d a b s := ⟨_, rfl⟩
  have b1 := order_bound d a b s n ha hb
  have c1 := order blk off cap a b n g s d w hn hH hblk hne hc hf ha hb (by omega) hsz
  rw [← h1] at b1 c1
  obtain ⟨x1, y1, s1⟩ := r1
  obtain ⟨r2, h2⟩ : ∃ r, r = order2 ltInt d y1 c s1 := ⟨_, rfl⟩
  have b2 := order_bound d y1 c s1 n b1.2.1 hcn
  have c2 : ∀ w1, Sp w w1 g s1 → _ := fun w1 S1 => order blk off cap y1 c n g s1 d w1 hn (S1.holds hH hblk hne) (S1.ltw hblk) hne S1.cell S1.free b1.2.1 hcn (by have h_ : s1 ≤ s + 1 := b1.2.2; omega) hsz
  rw [← h2] at b2 c2
  obtain ⟨x2, y2, s2⟩ := r2
  obtain ⟨r3, h3⟩ : ∃ r, r = order2 ltInt d x1 x2 s2 := ⟨_, rfl⟩
  have b3 := order_bound d x1 x2 s2 n b1.1 b2.1
  have c3 : ∀ w2, Sp w w2 g s2 → _ := fun w2 S2 => order blk off cap x1 x2 n g s2 d w2 hn (S2.holds hH hblk hne) (S2.ltw hblk) hne S2.cell S2.free b1.1 b2.1 (by have h_ : s1 ≤ s + 1 := b1.2.2; have h_2 : s2 ≤ s1 + 1 := b2.2.2; omega) hsz
  rw [← h3] at b3 c3
  obtain ⟨x3, y3, s3⟩ := r3
  have hM : median ltInt d a b c s = (y3, s3) := by
    unfold median
    rw [← h1]
    show (let r2 := order2 ltInt d y1 c s1; let r3 := order2 ltInt d x1 r2.1 r2.2.2; (r3.2.1, r3.2.2)) = _
    rw [← h2]
    show (let r3 := order2 ltInt d x1 x2 s2; (r3.2.1, r3.2.2)) = _
    rw [← h3]
  rw [hM]
  clear h1 h2 h3 hM hH
  go_enter Tryz.func170, Tryz.ntmps170
  go_wp2_with (first | (go_at_call 179; with_reducible refine c1.mono ?_; rintro e w1 ⟨rfl, S1⟩) | (go_at_call 179; with_reducible refine (c2 _ S1).mono ?_; rintro e w2 ⟨rfl, S2⟩) | (go_at_call 179; with_reducible refine (c3 _ (S1.trans S2)).mono ?_; rintro e w3 ⟨rfl, S3⟩))
  go_ret
  exact ⟨rfl, (S1.trans S2).trans S3, b3.2.1, by have h_ : s1 ≤ s + 1 := b1.2.2; have h_2 : s2 ≤ s1 + 1 := b2.2.2; have h_3 : s3 ≤ s2 + 1 := b3.2.2; show s3 ≤ s + 3; omega⟩
theorem medianAdjacent_ (blk off cap a n g s : Nat) (d : Array Int) (w : World) (hn : d.size = n) (hH : Holds (Value.int .u8) w blk off d) (hblk : blk < w.heap.size) (hne : blk ≠ g) (hc : w.cell? ⟨g, 0, none⟩ = some (.int .i64 s)) (hf : w.frozen? ⟨g, 0, none⟩ = false)
    (ha : 1 ≤ a) (hb : a + 1 < n) (hs : s ≤ 100) (hsz : n < 4611686018427387904) :
    Calls Tryz.prog 169 #[.slice (some ⟨blk, off, none⟩) n cap, .int .i64 a, .pointer (some ⟨g, 0, none⟩)] w fun e w' => e = .returned (.int .i64 ((medianAdjacent ltInt d a s).1 : Nat)) ∧ Sp w w' g (medianAdjacent ltInt d a s).2 ∧ (medianAdjacent ltInt d a s).1 < n ∧ (medianAdjacent ltInt d a s).2 ≤ s + 3 := by
  have hcon := median_ blk off cap (a - 1) a (a + 1) n g s d w hn hH hblk hne hc hf (by omega) (by omega) (by omega) hs hsz
  rw [show ((a - 1 : Nat) : Int) = (a : Int) - 1 from by omega, show ((a + 1 : Nat) : Int) = (a : Int) + 1 from by omega] at hcon
  show Calls Tryz.prog 169 _ w fun e w' => e = .returned (.int .i64 ((median ltInt d (a - 1) a (a + 1) s).1 : Nat)) ∧ Sp w w' g (median ltInt d (a - 1) a (a + 1) s).2 ∧ (median ltInt d (a - 1) a (a + 1) s).1 < n ∧ (median ltInt d (a - 1) a (a + 1) s).2 ≤ s + 3
  generalize median ltInt d (a - 1) a (a + 1) s = M at hcon ⊢
  clear hH
  go_enter Tryz.func169, Tryz.ntmps169
  go_wp2_with (go_at_call 170; refine hcon.mono ?_; rintro e w1 ⟨rfl, S1, q1, q2⟩)
  go_ret
  exact ⟨rfl, S1, q1, q2⟩
end Go.Proofs.YtkbgmojomgelbaaGreat.Srt
