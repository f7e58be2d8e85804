-- Made by this prover's wip/tools/myprint.py (the kit's print, with rules and contracts of this prover's own); Lean checks it.
import Derived.Test.YtigibdkgimgknaaMFnExactEnvOnlyx0
namespace Go.Proofs.Ytigibdkgimgknaa.MFnExactEnvOnly
open Go.RowKit Go.Proofs.YtigibdkgimgknaaW.PrintWords Go.Proofs.YtigibdkgimgknaaW.PrintLast Go.Proofs.YtigibdkgimgknaaW.PrintMore
attribute [local go_sem] max2_int min2_int max_two min_two max_three min_three max_four min_four   -- for this text's walks alone
set_option linter.unusedVariables false
set_option linter.unusedSimpArgs false

/-! ### spec_l03In: function 82 -/
def spec_l03In.l0 : Nat → List ByteArray → ByteArray → Int → Option (Bool)
  | 0, _, _, _ => none
  | k + 1, x0, x1, x5 => if x5 < (x0.length : Int) then (if 0 ≤ x5 then (if (rdOf ByteArray.empty x0 x5).toList = x1.toList then (some true) else (spec_l03In.l0 k x0 x1 (wrap64 (x5 + 1)))) else (none)) else (some false)
def spec_l03In.f (k : Nat) (l0 : List ByteArray) (a1 : ByteArray) : Option (Bool) := spec_l03In.l0 k l0 a1 0
theorem spec_l03In.mono_l : ∀ k, (∀ y0 y1 y2, LeO (spec_l03In.l0 k y0 y1 y2) (spec_l03In.l0 (k + 1) y0 y1 y2))
  | 0 => fun _ _ _ r h => by simp [spec_l03In.l0] at h
  | k + 1 => by
    have ih0 := spec_l03In.mono_l k
    · intro y0 y1 y2
      unfold spec_l03In.l0
      repeat' first
      | (with_reducible exact ih0 _ _ _)
      | (with_reducible exact LeO.refl _)
      | (with_reducible exact LeO.none _)
      | (with_reducible refine LeO.ite ?_ ?_)
      | (with_reducible refine LeO.bind ?_ (fun _ => ?_))
      | exact ih0 _ _ _
      | exact LeO.none _
      | refine LeO.ite ?_ ?_
      | refine LeO.bind ?_ (fun _ => ?_)
theorem spec_l03In.mono : ∀ a0 a1 k, LeO (spec_l03In.f k a0 a1) (spec_l03In.f (k + 1) a0 a1) := by
  intro a0 a1 k
  have ih0 := spec_l03In.mono_l k
  unfold spec_l03In.f
  repeat' first
      | (with_reducible exact ih0 _ _ _)
      | (with_reducible exact LeO.refl _)
      | (with_reducible exact LeO.none _)
      | (with_reducible refine LeO.ite ?_ ?_)
      | (with_reducible refine LeO.bind ?_ (fun _ => ?_))
      | exact ih0 _ _ _
      | exact LeO.none _
      | refine LeO.ite ?_ ?_
      | refine LeO.bind ?_ (fun _ => ?_)
set_option maxHeartbeats 8000000 in
set_option maxRecDepth 100000 in
theorem spec_l03In.calls (k : Nat) (A0 : Option Addr) (c0 : Nat) (l0 : List ByteArray) (a1 : ByteArray) (r : Bool) (w : World) (hr0 : Kd.C Kd.string w A0 l0.length l0) (hc0 : l0.length ≤ c0) (h : spec_l03In.f k l0 a1 = some r) :
    Calls Try.prog 82 #[.slice A0 l0.length c0, .string a1] w fun e w' => e = .returned (.bool r) ∧ Drawn0 w w' := by
  have HR0 := Aside0.mk hr0
  have HC0 := Aside0.mk hc0
  clear hr0 hc0
  have H : (spec_l03In.l0 k l0 a1 0) = some r := h
  clear h
  have H' := Aside0.mk H
  clear H
  go_enter Try.func82, Try.ntmps82
  go_wp2
  go_loopg [5] k (fun kq v5 w' => ∃ (x5_1 : Int), v5 = .int .i64 x5_1 ∧ Aside0 (spec_l03In.l0 kq l0 a1 x5_1 = some r) ∧ Aside0 (kq ≤ k) ∧ Drawn0 w w')
  case atStart => exact ⟨(0), (by first | rfl | (exact congrArg Value.bool (isEmpty_ne _)) | (exact congrArg Value.bool (isEmpty_ne' _)) | (exact congrArg Value.bool (isEmpty_eq _)) | (simp; done) | (simp [*]; done)), H', ⟨Nat.le_refl _⟩, by repeat (first | exact Drawn0.refl _ | apply Drawn0.step)⟩
  case round =>
    clear H'
    try clear p2
    obtain ⟨x5_1, rfl, HA, HK1, ⟨m1, rfl⟩⟩ := hrel
    cases gk with
    | zero => exact absurd HA.out (by simp [spec_l03In.l0])
    | succ k1 =>
      have H := HA.out
      clear HA
      simp only [spec_l03In.l0] at H
      by_cases c3 : x5_1 < (l0.length : Int)
      · rw [if_pos c3] at H
        have c3b0 : decide (x5_1 < (l0.length : Int)) = true := decide_eq_true c3
        clear c3
        by_cases c4 : 0 ≤ x5_1
        · rw [if_pos c4] at H
          have c4b0 : decide (0 ≤ x5_1) = true := decide_eq_true c4
          clear c4
          by_cases c5 : (rdOf ByteArray.empty l0 x5_1).toList = a1.toList
          · rw [if_pos c5] at H
            have c5b0 : ((rdOf ByteArray.empty l0 x5_1).toList == a1.toList) = true := beq_iff_eq.mpr c5
            have c5b1 : ((rdOf ByteArray.empty l0 x5_1).toList != a1.toList) = false := bne_eq_false_iff_eq.mpr c5
            clear c5
            obtain rfl := Option.some.inj H
            have p120 : 0 ≤ (x5_1 : Int) := of_decide_eq_true (by first | (with_reducible assumption) | assumption)
            have q120 : x5_1 < (l0.length : Int) := of_decide_eq_true (by first | (with_reducible assumption) | assumption)
            obtain ⟨ad120, e120, hx120_0⟩ := Kd.at_string HR0.out x5_1 p120 q120
            cases e120
            replace p120 := eq_true p120
            replace q120 := eq_true q120
            go_wp2
            go_ret
            exact ⟨by first | rfl | (simp; done) | (simp [*]; done), by repeat (first | exact Drawn0.refl _ | apply Drawn0.step)⟩
          · rw [if_neg c5] at H
            have c5b0 : ((rdOf ByteArray.empty l0 x5_1).toList == a1.toList) = false := beq_eq_false_iff_ne.mpr c5
            have c5b1 : ((rdOf ByteArray.empty l0 x5_1).toList != a1.toList) = true := bne_iff_ne.mpr c5
            have H' := Aside0.mk H
            clear H
            have p120 : 0 ≤ (x5_1 : Int) := of_decide_eq_true (by first | (with_reducible assumption) | assumption)
            have q120 : x5_1 < (l0.length : Int) := of_decide_eq_true (by first | (with_reducible assumption) | assumption)
            obtain ⟨ad120, e120, hx120_0⟩ := Kd.at_string HR0.out x5_1 p120 q120
            cases e120
            replace p120 := eq_true p120
            replace q120 := eq_true q120
            go_wp2
            go_roundg k1
            case measure => have := HK1.out; omega
            case rel => exact ⟨(wrap64 (x5_1 + 1)), (by first | rfl | (exact congrArg Value.bool (isEmpty_ne _)) | (exact congrArg Value.bool (isEmpty_ne' _)) | (exact congrArg Value.bool (isEmpty_eq _)) | (simp; done) | (simp [*]; done)), H', ⟨by have := HK1.out; omega⟩, by repeat (first | exact Drawn0.refl _ | apply Drawn0.step)⟩
        · rw [if_neg c4] at H
          exact absurd H (by simp)
      · rw [if_neg c3] at H
        have c3b0 : decide (x5_1 < (l0.length : Int)) = false := decide_eq_false c3
        clear c3
        obtain rfl := Option.some.inj H
        go_wp2
        go_ret
        exact ⟨by first | rfl | (simp; done) | (simp [*]; done), by repeat (first | exact Drawn0.refl _ | apply Drawn0.step)⟩

/-! ### spec_EnvOnly: function 40 -/
def spec_EnvOnly.l0 : Nat → List (S51) → List ByteArray → List (S51) → Int → Option ((List (S51)))
  | 0, _, _, _, _ => none
  | k + 1, x0, x1, x5, x6 => if x6 < (x0.length : Int) then (if 0 ≤ x6 then ((spec_l03In.f k x1 ((rd_T51 x0 x6).f0)).bind fun t125 => (if t125 = true then (if x5.length < 5864062014805 then (spec_EnvOnly.l0 k x0 x1 (x5 ++ [(⟨(rd_T51 x0 x6).f0, (rd_T51 x0 x6).f1⟩ : S51)]) (wrap64 (x6 + 1))) else (none)) else (spec_EnvOnly.l0 k x0 x1 x5 (wrap64 (x6 + 1))))) else (none)) else (some x5)
def spec_EnvOnly.f (k : Nat) (l0 : List (S51)) (l1 : List ByteArray) : Option ((List (S51))) := spec_EnvOnly.l0 k l0 l1 (([] : List (S51))) 0
theorem spec_EnvOnly.mono_l : ∀ k, (∀ y0 y1 y2 y3, LeO (spec_EnvOnly.l0 k y0 y1 y2 y3) (spec_EnvOnly.l0 (k + 1) y0 y1 y2 y3))
  | 0 => fun _ _ _ _ r h => by simp [spec_EnvOnly.l0] at h
  | k + 1 => by
    have ih0 := spec_EnvOnly.mono_l k
    · intro y0 y1 y2 y3
      unfold spec_EnvOnly.l0
      repeat' first
      | (with_reducible exact ih0 _ _ _ _)
      | (with_reducible exact spec_l03In.mono _ _ _)
      | (with_reducible exact LeO.refl _)
      | (with_reducible exact LeO.none _)
      | (with_reducible refine LeO.ite ?_ ?_)
      | (with_reducible refine LeO.bind ?_ (fun _ => ?_))
      | exact ih0 _ _ _ _
      | exact spec_l03In.mono _ _ _
      | exact LeO.none _
      | refine LeO.ite ?_ ?_
      | refine LeO.bind ?_ (fun _ => ?_)
theorem spec_EnvOnly.mono : ∀ a0 a1 k, LeO (spec_EnvOnly.f k a0 a1) (spec_EnvOnly.f (k + 1) a0 a1) := by
  intro a0 a1 k
  have ih0 := spec_EnvOnly.mono_l k
  unfold spec_EnvOnly.f
  repeat' first
      | (with_reducible exact ih0 _ _ _ _)
      | (with_reducible exact spec_l03In.mono _ _ _)
      | (with_reducible exact LeO.refl _)
      | (with_reducible exact LeO.none _)
      | (with_reducible refine LeO.ite ?_ ?_)
      | (with_reducible refine LeO.bind ?_ (fun _ => ?_))
      | exact ih0 _ _ _ _
      | exact spec_l03In.mono _ _ _
      | exact LeO.none _
      | refine LeO.ite ?_ ?_
      | refine LeO.bind ?_ (fun _ => ?_)
set_option maxHeartbeats 8000000 in
set_option maxRecDepth 100000 in
theorem spec_EnvOnly.calls (k : Nat) (A0 : Option Addr) (c0 : Nat) (l0 : List (S51)) (A1 : Option Addr) (c1 : Nat) (l1 : List ByteArray) (r : List (S51)) (w : World) (hr0 : Kd.C k51 w A0 l0.length l0) (hc0 : l0.length ≤ c0) (hr1 : Kd.C Kd.string w A1 l1.length l1) (hc1 : l1.length ≤ c1) (h : spec_EnvOnly.f k l0 l1 = some r) :
    Calls Try.prog 40 #[.slice A0 l0.length c0, .slice A1 l1.length c1] w fun e w' => ∃ v0_ : Value, e = .returned (v0_) ∧ Kd.R k51 51 w' w.heap.size (fun _ => True) v0_ r ∧ Below w.heap.size w w' := by
  have hu51 := Try.underlying51
  have HR0 := Aside0.mk hr0
  have HC0 := Aside0.mk hc0
  clear hr0 hc0
  have HR1 := Aside0.mk hr1
  have HC1 := Aside0.mk hc1
  clear hr1 hc1
  have HB := Aside0.mk (Below.refl w.heap.size w)
  have H : (spec_EnvOnly.l0 k l0 l1 (([] : List (S51))) 0) = some r := h
  clear h
  obtain ⟨y121, hy121⟩ : ∃ y_ : List (S51), y_ = (([] : List (S51))) := ⟨_, rfl⟩
  replace H : (spec_EnvOnly.l0 k l0 l1 y121 0) = some r := by first | (rw [hy121]; with_reducible exact H) | (have H2_ := (Option.bind_some _ _).symm.trans H; rw [hy121]; with_reducible exact H2_) | (have H2_ := (Option.bind_some _ _).symm.trans H; with_reducible exact H2_) | with_reducible exact H | (rw [hy121]; exact H) | exact H
  have Ny121 := Aside0.mk hy121
  clear hy121
  have H' := Aside0.mk H
  clear H
  go_enter Try.func40, Try.ntmps40
  go_wp2_with (first | ((with_reducible refine gate_dst (N := 7) rfl ?_); refine Kd.R_lit k51 _ 51 ?hg (N := 7) ?hd (xs := ([] : List (S51))) (inner := []) (ok := fun _ => True) (okp := fun _ => True) ?hr ?hp (fun _ hk => hk) trivial (Below.refl _ _) (Nat.le_refl _) (by simp) ?_; (case hd => rfl); (case hg => rfl); (case hr => first | (go_simp; done) | (go_simp; rfl)); (case hp => exact (Reps.none _ _)); intro v122 w3 ho4 hb hg_ hnew_; clear hg_ hnew_; (first | rw [← Ny121.out] at ho4 | (simp only [Int.reduceToNat] at ho4; rw [← Ny121.out] at ho4)); have n0_ := Aside0.mk (Kd.R_lower ho4 (below_size (by repeat (first | (with_reducible first | exact HB.out | apply below_alloc | apply pw_below_drewN | apply below_drew1) | exact HB.out)))); have n1_ := Aside0.mk (below_step (by repeat (first | (with_reducible first | exact HB.out | apply below_alloc | apply pw_below_drewN | apply below_drew1) | exact HB.out)) hb); clear HB; have HO123 := n0_; have HB := n1_; clear n0_ n1_; clear hb ho4))
  go_loopg [5, 6] k (fun kq v5 v6 w' => ∃ (x5_1 : List (S51)) (x6_1 : Int), v6 = .int .i64 x6_1 ∧ Aside0 (spec_EnvOnly.l0 kq l0 l1 x5_1 x6_1 = some r) ∧ Aside0 (kq ≤ k) ∧ Aside0 (Kd.R k51 51 w' w.heap.size (fun _ => True) v5 x5_1) ∧ Aside0 (Below w.heap.size w w'))
  case atStart => exact ⟨(y121), (0), (by first | rfl | (exact congrArg Value.bool (isEmpty_ne _)) | (exact congrArg Value.bool (isEmpty_ne' _)) | (exact congrArg Value.bool (isEmpty_eq _)) | (simp; done) | (simp [*]; done)), H', ⟨Nat.le_refl _⟩, ⟨by (with_reducible repeat (first | apply Kd.R_alloc | apply Kd.R_drewN | apply Kd.R_drew)); exact HO123.out⟩, ⟨by repeat (first | (with_reducible first | exact HB.out | apply below_alloc | apply pw_below_drewN | apply below_drew1) | exact HB.out)⟩⟩
  case round =>
    clear H'
    try clear c1
    try clear p2
    try clear c4
    obtain ⟨x5_1, x6_1, rfl, HA, HK1, HO_5, HB⟩ := hrel
    cases gk with
    | zero => exact absurd HA.out (by simp [spec_EnvOnly.l0])
    | succ k1 =>
      have H := HA.out
      clear HA
      simp only [spec_EnvOnly.l0] at H
      by_cases c5 : x6_1 < (l0.length : Int)
      · rw [if_pos c5] at H
        have c5b0 : decide (x6_1 < (l0.length : Int)) = true := decide_eq_true c5
        clear c5
        by_cases c6 : 0 ≤ x6_1
        · rw [if_pos c6] at H
          have c6b0 : decide (0 ≤ x6_1) = true := decide_eq_true c6
          clear c6
          replace H := Option.bind_eq_some_iff.mp H
          obtain ⟨t125, A70, H⟩ := H
          replace H : (if t125 = true then (if x5_1.length < 5864062014805 then (spec_EnvOnly.l0 k1 l0 l1 (x5_1 ++ [(⟨(rd_T51 l0 x6_1).f0, (rd_T51 l0 x6_1).f1⟩ : S51)]) (wrap64 (x6_1 + 1))) else (none)) else (spec_EnvOnly.l0 k1 l0 l1 x5_1 (wrap64 (x6_1 + 1)))) = some r := H
          have A7 := Aside0.mk A70
          clear A70
          by_cases c8 : t125 = true
          · subst c8
            have H1 : (if x5_1.length < 5864062014805 then (spec_EnvOnly.l0 k1 l0 l1 (x5_1 ++ [(⟨(rd_T51 l0 x6_1).f0, (rd_T51 l0 x6_1).f1⟩ : S51)]) (wrap64 (x6_1 + 1))) else (none)) = some r := by rw [if_pos rfl] at H; exact H
            clear H
            have H := H1
            clear H1
            by_cases c9 : x5_1.length < 5864062014805
            · rw [if_pos c9] at H
              have LMc9 := Aside0.mk c9
              clear c9
              obtain ⟨y127, hy127⟩ : ∃ y_ : List (S51), y_ = (x5_1 ++ [(⟨(rd_T51 l0 x6_1).f0, (rd_T51 l0 x6_1).f1⟩ : S51)]) := ⟨_, rfl⟩
              replace H : (spec_EnvOnly.l0 k1 l0 l1 y127 (wrap64 (x6_1 + 1))) = some r := by first | (rw [hy127]; with_reducible exact H) | (have H2_ := (Option.bind_some _ _).symm.trans H; rw [hy127]; with_reducible exact H2_) | (have H2_ := (Option.bind_some _ _).symm.trans H; with_reducible exact H2_) | with_reducible exact H | (rw [hy127]; exact H) | exact H
              have Ny127 := Aside0.mk hy127
              clear hy127
              have H' := Aside0.mk H
              clear H
              have p124 : 0 ≤ (x6_1 : Int) := of_decide_eq_true (by first | (with_reducible assumption) | assumption)
              have q124 : x6_1 < (l0.length : Int) := of_decide_eq_true (by first | (with_reducible assumption) | assumption)
              obtain ⟨ad124, e124, hx124_0, hx124_1⟩ := at_T51 HR0.out x6_1 p124 q124
              cases e124
              replace hx124_0 := (HB.out.cell (World.block_lt_of_cell? w _ hx124_0)).trans hx124_0
              replace hx124_1 := (HB.out.cell (World.block_lt_of_cell? w _ hx124_1)).trans hx124_1
              replace p124 := eq_true p124
              replace q124 := eq_true q124
              go_wp2_with (first | ((with_reducible refine gate_callee (f := 82) rfl ?_); refine goesL_ (some 20) rfl rfl Try.func82 (by kernel_rfl) rfl #[.slice A1 l1.length c1, .string ((rd_T51 l0 x6_1).f0)] rfl (by (try simp only [List.map_toArray, List.map_cons, List.map_nil]); first | done | rfl | (simp only [List.length_drop, List.length_take]; rfl)) ?_; (with_reducible refine (spec_l03In.calls k1 _ _ l1 ((rd_T51 l0 x6_1).f0) true _ ?side1 ?side2 A7.out).mono ?_); (case side1 => repeat (first | exact (Kd.C_below HR1.out HB.out) | (with_reducible refine Kd.C_alloc ?_ _) | (with_reducible refine Kd.C_drewN ?_ _) | (with_reducible refine Kd.C_drew ?_))); (case side2 => exact HC1.out); rintro e w' ⟨rfl, ⟨nd, rfl⟩⟩; refine ⟨_, rfl, ?_⟩; have p126 : 0 ≤ (x6_1 : Int) := of_decide_eq_true (by first | (with_reducible assumption) | assumption); have q126 : x6_1 < (l0.length : Int) := of_decide_eq_true (by first | (with_reducible assumption) | assumption); obtain ⟨ad126, e126, hx126_0, hx126_1⟩ := at_T51 HR0.out x6_1 p126 q126; obtain rfl : ad124 = ad126 := (by injection e126); replace hx126_0 := (HB.out.cell (World.block_lt_of_cell? w _ hx126_0)).trans hx126_0; replace hx126_1 := (HB.out.cell (World.block_lt_of_cell? w _ hx126_1)).trans hx126_1; replace p126 := eq_true p126; replace q126 := eq_true q126) | ((with_reducible refine gate_builtin (b := .append) (xs := #[.tmp 21, .tmp 26]) rfl ?_); at_builtin; refine Kd.R_append k51 (w0 := w) w.heap.size rfl (.tmp 21) (.tmp 26) 32 51 (.agg #[(.string ⟨#[]⟩), (.int .i64 0)]) 24 rfl Try.underlying32 info51 rfl (by decide) (by omega) u5 x5_1 (⟨(rd_T51 l0 x6_1).f0, (rd_T51 l0 x6_1).f1⟩ : S51) [.string ((rd_T51 l0 x6_1).f0), .int .i64 ((rd_T51 l0 x6_1).f1)] (fun _ => True) (fun _ => False) rfl rfl ?aP (fun _ hk => hk.elim) ?aF ?aO ?aB ?aS ?aL ?_; (case aP => exact k51_mkM _ _ _ (⟨(rd_T51 l0 x6_1).f0, (rd_T51 l0 x6_1).f1⟩ : S51)); (case aB => exact (by repeat (first | (with_reducible first | exact HB.out | apply below_alloc | apply pw_below_drewN | apply below_drew1) | exact HB.out))); (case aF => exact (fun _ _ => trivial)); (case aO => exact (by (with_reducible repeat (first | apply Kd.R_alloc | apply Kd.R_drewN | apply Kd.R_drew)); exact HO_5.out)); (case aS => exact (below_size (by repeat (first | (with_reducible first | exact HB.out | apply below_alloc | apply pw_below_drewN | apply below_drew1) | exact HB.out)))); (case aL => have := LMc9.out; omega); intro v128 w10 ho hb hg hat; rw [← Ny127.out] at ho; have n0_ := Aside0.mk (hb); have n1_ := Aside0.mk (ho); clear HB; clear HO_5; have HB := n0_; have HO129 := n1_; clear n0_ n1_; clear ho hb hg hat))
              go_roundg k1
              case measure => have := HK1.out; omega
              case rel => exact ⟨(y127), (wrap64 (x6_1 + 1)), (by first | rfl | (exact congrArg Value.bool (isEmpty_ne _)) | (exact congrArg Value.bool (isEmpty_ne' _)) | (exact congrArg Value.bool (isEmpty_eq _)) | (simp; done) | (simp [*]; done)), H', ⟨by have := HK1.out; omega⟩, ⟨by (with_reducible repeat (first | apply Kd.R_alloc | apply Kd.R_drewN | apply Kd.R_drew)); exact HO129.out⟩, ⟨by repeat (first | (with_reducible first | exact HB.out | apply below_alloc | apply pw_below_drewN | apply below_drew1) | exact HB.out)⟩⟩
            · rw [if_neg c9] at H
              exact absurd H (by simp)
          · replace c8 := Bool.eq_false_iff.mpr c8
            subst c8
            have H1 : (spec_EnvOnly.l0 k1 l0 l1 x5_1 (wrap64 (x6_1 + 1))) = some r := by rw [if_neg (show ¬ (false = true) by decide)] at H; exact H
            clear H
            have H := H1
            clear H1
            have H' := Aside0.mk H
            clear H
            have p124 : 0 ≤ (x6_1 : Int) := of_decide_eq_true (by first | (with_reducible assumption) | assumption)
            have q124 : x6_1 < (l0.length : Int) := of_decide_eq_true (by first | (with_reducible assumption) | assumption)
            obtain ⟨ad124, e124, hx124_0, hx124_1⟩ := at_T51 HR0.out x6_1 p124 q124
            cases e124
            replace hx124_0 := (HB.out.cell (World.block_lt_of_cell? w _ hx124_0)).trans hx124_0
            replace hx124_1 := (HB.out.cell (World.block_lt_of_cell? w _ hx124_1)).trans hx124_1
            replace p124 := eq_true p124
            replace q124 := eq_true q124
            go_wp2_with (first | ((with_reducible refine gate_callee (f := 82) rfl ?_); refine goesL_ (some 20) rfl rfl Try.func82 (by kernel_rfl) rfl #[.slice A1 l1.length c1, .string ((rd_T51 l0 x6_1).f0)] rfl (by (try simp only [List.map_toArray, List.map_cons, List.map_nil]); first | done | rfl | (simp only [List.length_drop, List.length_take]; rfl)) ?_; (with_reducible refine (spec_l03In.calls k1 _ _ l1 ((rd_T51 l0 x6_1).f0) false _ ?side1 ?side2 A7.out).mono ?_); (case side1 => repeat (first | exact (Kd.C_below HR1.out HB.out) | (with_reducible refine Kd.C_alloc ?_ _) | (with_reducible refine Kd.C_drewN ?_ _) | (with_reducible refine Kd.C_drew ?_))); (case side2 => exact HC1.out); rintro e w' ⟨rfl, ⟨nd, rfl⟩⟩; refine ⟨_, rfl, ?_⟩))
            go_roundg k1
            case measure => have := HK1.out; omega
            case rel => exact ⟨(x5_1), (wrap64 (x6_1 + 1)), (by first | rfl | (exact congrArg Value.bool (isEmpty_ne _)) | (exact congrArg Value.bool (isEmpty_ne' _)) | (exact congrArg Value.bool (isEmpty_eq _)) | (simp; done) | (simp [*]; done)), H', ⟨by have := HK1.out; omega⟩, ⟨by (with_reducible repeat (first | apply Kd.R_alloc | apply Kd.R_drewN | apply Kd.R_drew)); exact HO_5.out⟩, ⟨by repeat (first | (with_reducible first | exact HB.out | apply below_alloc | apply pw_below_drewN | apply below_drew1) | exact HB.out)⟩⟩
        · rw [if_neg c6] at H
          exact absurd H (by simp)
      · rw [if_neg c5] at H
        have c5b0 : decide (x6_1 < (l0.length : Int)) = false := decide_eq_false c5
        clear c5
        obtain rfl := Option.some.inj H
        go_wp2
        go_ret
        exact ⟨_, by first | rfl | (simp [errW_none, errW_some] <;> rfl) | (simp [*, errW_none, errW_some] <;> rfl), by (with_reducible repeat (first | apply Kd.R_alloc | apply Kd.R_drewN | apply Kd.R_drew)); exact HO_5.out, by repeat (first | (with_reducible first | exact HB.out | apply below_alloc | apply pw_below_drewN | apply below_drew1) | exact HB.out)⟩

/-! ### laws_toStringS: function 41 -/
def laws_toStringS.l0 : Nat → List ByteArray → List ByteArray → Int → Option (List ByteArray)
  | 0, _, _, _ => none
  | k + 1, x0, x3, x4 => if x4 < (x0.length : Int) then (if 0 ≤ x4 then (if x4 < (x3.length : Int) then (laws_toStringS.l0 k x0 (x3.set (x4 : Int).toNat (rdOf ByteArray.empty x0 x4)) (wrap64 (x4 + 1))) else (none)) else (none)) else (some x3)
def laws_toStringS.f (k : Nat) (l0 : List ByteArray) : Option (List ByteArray) := if 0 ≤ (l0.length : Int) then (if ((l0.length : Int) : Int).toNat ≤ 17592186044416 then (laws_toStringS.l0 k l0 (List.replicate ((l0.length : Int) : Int).toNat (⟨#[]⟩ : ByteArray)) 0) else (none)) else (none)
theorem laws_toStringS.mono_l : ∀ k, (∀ y0 y1 y2, LeO (laws_toStringS.l0 k y0 y1 y2) (laws_toStringS.l0 (k + 1) y0 y1 y2))
  | 0 => fun _ _ _ r h => by simp [laws_toStringS.l0] at h
  | k + 1 => by
    have ih0 := laws_toStringS.mono_l k
    · intro y0 y1 y2
      unfold laws_toStringS.l0
      repeat' first
      | (with_reducible exact ih0 _ _ _)
      | (with_reducible exact LeO.refl _)
      | (with_reducible exact LeO.none _)
      | (with_reducible refine LeO.ite ?_ ?_)
      | (with_reducible refine LeO.bind ?_ (fun _ => ?_))
      | exact ih0 _ _ _
      | exact LeO.none _
      | refine LeO.ite ?_ ?_
      | refine LeO.bind ?_ (fun _ => ?_)
theorem laws_toStringS.mono : ∀ a0 k, LeO (laws_toStringS.f k a0) (laws_toStringS.f (k + 1) a0) := by
  intro a0 k
  have ih0 := laws_toStringS.mono_l k
  unfold laws_toStringS.f
  repeat' first
      | (with_reducible exact ih0 _ _ _)
      | (with_reducible exact LeO.refl _)
      | (with_reducible exact LeO.none _)
      | (with_reducible refine LeO.ite ?_ ?_)
      | (with_reducible refine LeO.bind ?_ (fun _ => ?_))
      | exact ih0 _ _ _
      | exact LeO.none _
      | refine LeO.ite ?_ ?_
      | refine LeO.bind ?_ (fun _ => ?_)
set_option maxHeartbeats 8000000 in
set_option maxRecDepth 100000 in
theorem laws_toStringS.calls (k : Nat) (A0 : Option Addr) (c0 : Nat) (l0 : List ByteArray) (r : List ByteArray) (w : World) (hr0 : Kd.C Kd.string w A0 l0.length l0) (hc0 : l0.length ≤ c0) (h : laws_toStringS.f k l0 = some r) :
    Calls Try.prog 41 #[.slice A0 l0.length c0] w fun e w' => ∃ v0_ : Value, e = .returned (v0_) ∧ Kd.R Kd.string 9 w' w.heap.size (fun _ => True) v0_ r ∧ Below w.heap.size w w' := by
  have HR0 := Aside0.mk hr0
  have HC0 := Aside0.mk hc0
  clear hr0 hc0
  have HB := Aside0.mk (Below.refl w.heap.size w)
  have H : (if 0 ≤ (l0.length : Int) then (if ((l0.length : Int) : Int).toNat ≤ 17592186044416 then (laws_toStringS.l0 k l0 (List.replicate ((l0.length : Int) : Int).toNat (⟨#[]⟩ : ByteArray)) 0) else (none)) else (none)) = some r := h
  clear h
  by_cases c2 : 0 ≤ (l0.length : Int)
  · rw [if_pos c2] at H
    have c2b0 := eq_true c2
    have c2b1 : decide (0 ≤ (l0.length : Int)) = true := decide_eq_true c2
    clear c2
    by_cases c3 : ((l0.length : Int) : Int).toNat ≤ 17592186044416
    · rw [if_pos c3] at H
      have c3b0 := eq_true c3
      have c3b1 : decide (((l0.length : Int) : Int).toNat ≤ 17592186044416) = true := decide_eq_true c3
      clear c3
      obtain ⟨y130, hy130⟩ : ∃ y_ : List ByteArray, y_ = (List.replicate ((l0.length : Int) : Int).toNat (⟨#[]⟩ : ByteArray)) := ⟨_, rfl⟩
      replace H : (laws_toStringS.l0 k l0 y130 0) = some r := by first | (rw [hy130]; with_reducible exact H) | (have H2_ := (Option.bind_some _ _).symm.trans H; rw [hy130]; with_reducible exact H2_) | (have H2_ := (Option.bind_some _ _).symm.trans H; with_reducible exact H2_) | with_reducible exact H | (rw [hy130]; exact H) | exact H
      have Ny130 := Aside0.mk hy130
      clear hy130
      have H' := Aside0.mk H
      clear H
      go_enter Try.func41, Try.ntmps41
      go_wp2_with (first | ((with_reducible refine gate_dst (N := 7) rfl ?_); refine Kd.R_make Kd.string _ 9 rfl (N := 7) rfl 47 _ _ rfl (l0.length : Int) rfl rfl Try.underlying47 (.string ⟨#[]⟩) 16 info9 rfl (by decide) (by omega) (⟨#[]⟩ : ByteArray) (ok := fun _ => True) (okp := fun _ => True) rfl (fun _ hk => hk) trivial (of_decide_eq_true (by first | (with_reducible assumption) | assumption)) (Nat.le_trans (Nat.mul_le_mul_right _ (of_decide_eq_true (by first | (with_reducible assumption) | assumption) : (l0.length : Int).toNat ≤ 17592186044416)) (by omega)) (Below.refl _ _) (Nat.le_refl _) ?_; intro v131 w4 ho5 hb hg_ hnew_; clear hg_ hnew_; (first | rw [← Ny130.out] at ho5 | (simp only [Int.reduceToNat] at ho5; rw [← Ny130.out] at ho5)); have n0_ := Aside0.mk (Kd.R_lower ho5 (below_size (by repeat (first | (with_reducible first | exact HB.out | apply below_alloc | apply pw_below_drewN | apply below_drew1) | exact HB.out)))); have n1_ := Aside0.mk (below_step (by repeat (first | (with_reducible first | exact HB.out | apply below_alloc | apply pw_below_drewN | apply below_drew1) | exact HB.out)) hb); clear HB; have HO132 := n0_; have HB := n1_; clear n0_ n1_; clear hb ho5))
      go_loopg [4] k (fun kq v4 w' => ∃ (x3_1 : List ByteArray) (x4_1 : Int), v4 = .int .i64 x4_1 ∧ Aside0 (laws_toStringS.l0 kq l0 x3_1 x4_1 = some r) ∧ Aside0 (kq ≤ k) ∧ Aside0 (Kd.R Kd.string 9 w' w.heap.size (fun _ => True) v131 x3_1) ∧ Aside0 (Below w.heap.size w w'))
      case atStart => exact ⟨(y130), (0), (by first | rfl | (exact congrArg Value.bool (isEmpty_ne _)) | (exact congrArg Value.bool (isEmpty_ne' _)) | (exact congrArg Value.bool (isEmpty_eq _)) | (simp; done) | (simp [*]; done)), H', ⟨Nat.le_refl _⟩, ⟨by (with_reducible repeat (first | apply Kd.R_alloc | apply Kd.R_drewN | apply Kd.R_drew)); exact HO132.out⟩, ⟨by repeat (first | (with_reducible first | exact HB.out | apply below_alloc | apply pw_below_drewN | apply below_drew1) | exact HB.out)⟩⟩
      case round =>
        clear H'
        try clear c2
        try clear c2b0
        try clear c2b1
        try clear p2
        try clear c3
        try clear c3b0
        try clear c3b1
        try clear c4
        obtain ⟨x3_1, x4_1, rfl, HA, HK1, HO_3, HB⟩ := hrel
        cases gk with
        | zero => exact absurd HA.out (by simp [laws_toStringS.l0])
        | succ k1 =>
          have H := HA.out
          clear HA
          simp only [laws_toStringS.l0] at H
          by_cases c6 : x4_1 < (l0.length : Int)
          · rw [if_pos c6] at H
            have c6b0 : decide (x4_1 < (l0.length : Int)) = true := decide_eq_true c6
            clear c6
            by_cases c7 : 0 ≤ x4_1
            · rw [if_pos c7] at H
              have c7b0 : decide (0 ≤ x4_1) = true := decide_eq_true c7
              clear c7
              by_cases c8 : x4_1 < (x3_1.length : Int)
              · rw [if_pos c8] at H
                have c8b0 : decide (x4_1 < (x3_1.length : Int)) = true := decide_eq_true c8
                clear c8
                obtain ⟨y134, hy134⟩ : ∃ y_ : List ByteArray, y_ = (x3_1.set (x4_1 : Int).toNat (rdOf ByteArray.empty l0 x4_1)) := ⟨_, rfl⟩
                replace H : (laws_toStringS.l0 k1 l0 y134 (wrap64 (x4_1 + 1))) = some r := by first | (rw [hy134]; with_reducible exact H) | (have H2_ := (Option.bind_some _ _).symm.trans H; rw [hy134]; with_reducible exact H2_) | (have H2_ := (Option.bind_some _ _).symm.trans H; with_reducible exact H2_) | with_reducible exact H | (rw [hy134]; exact H) | exact H
                have Ny134 := Aside0.mk hy134
                clear hy134
                have H' := Aside0.mk H
                clear H
                have p133 : 0 ≤ (x4_1 : Int) := of_decide_eq_true (by first | (with_reducible assumption) | assumption)
                have q133 : x4_1 < (l0.length : Int) := of_decide_eq_true (by first | (with_reducible assumption) | assumption)
                obtain ⟨ad133, e133, hx133_0⟩ := Kd.at_string HR0.out x4_1 p133 q133
                cases e133
                replace hx133_0 := (HB.out.cell (World.block_lt_of_cell? w _ hx133_0)).trans hx133_0
                replace p133 := eq_true p133
                replace q133 := eq_true q133
                have p9 : 0 ≤ (x4_1 : Int) := of_decide_eq_true (by first | (with_reducible assumption) | assumption)
                have q9 : (x4_1 : Int) < ((x3_1.length : Int) : Int) := of_decide_eq_true (by first | (with_reducible assumption) | assumption)
                obtain ⟨go9, co9, eo9, gb9, gl9, cl9, HG9⟩ := Kd.R_form HO_3.out (by omega)
                (first | cases eo9 | (injection eo9 with ea_ en_ ec_; (first | subst ea_ | (injection ea_ with ea_; subst ea_)); subst ec_; clear en_))
                have GB9 := Aside0.mk gb9
                have GG9 := Aside0.mk HG9
                clear gb9 gl9 HG9
                obtain ⟨hx9_0, hf9_0⟩ := Kd.R_celln (⟨#[]⟩ : ByteArray) HO_3.out (x4_1 : Int) p9 q9
                replace p9 := eq_true p9
                replace q9 := eq_true q9
                have HP10 := Kd.R_putg HO_3.out (x4_1 : Int) (rdOf ByteArray.empty l0 x4_1)
                go_wp2_with (first | ((with_reducible refine gate_store (t := 9) (p := 20) rfl ?_); refine store_event (t := 9) (p := 20) (v := ?vo_w11) (w1 := (wr.setCell ⟨go9, (x4_1 : Int).toNat, none⟩ (.string (rdOf ByteArray.empty l0 x4_1)))) ?hg ?ho ?hn ?hr ?_; (case ho => rfl); (case hg => rfl); (case hn => rfl); (case hr => first | (go_simp; done) | (go_simp; rfl)); intro w11 hw; have hg : wr.grownBy w11 (some go9) := (by rw [hw]; exact HP10.2); have hp_ : Kd.R Kd.string 9 w11 w.heap.size (fun _ => True) (.slice (some ⟨go9, 0, none⟩) x3_1.length co9) y134 := (by rw [hw, Ny134.out]; exact HP10.1); clear HP10; have n0_ := Aside0.mk (hp_); have n1_ := Aside0.mk ((by rw [hw]; exact below_set (HB.out) GB9.out : Below w.heap.size w w11)); clear HO_3; clear HB; have HO_3 := n0_; have HB := n1_; clear n0_ n1_; clear hg hw hp_))
                go_roundg k1
                case measure => have := HK1.out; omega
                case rel => exact ⟨(y134), (wrap64 (x4_1 + 1)), (by first | rfl | (exact congrArg Value.bool (isEmpty_ne _)) | (exact congrArg Value.bool (isEmpty_ne' _)) | (exact congrArg Value.bool (isEmpty_eq _)) | (simp; done) | (simp [*]; done)), H', ⟨by have := HK1.out; omega⟩, ⟨by (with_reducible repeat (first | apply Kd.R_alloc | apply Kd.R_drewN | apply Kd.R_drew)); exact HO_3.out⟩, ⟨by repeat (first | (with_reducible first | exact HB.out | apply below_alloc | apply pw_below_drewN | apply below_drew1) | exact HB.out)⟩⟩
              · rw [if_neg c8] at H
                exact absurd H (by simp)
            · rw [if_neg c7] at H
              exact absurd H (by simp)
          · rw [if_neg c6] at H
            have c6b0 : decide (x4_1 < (l0.length : Int)) = false := decide_eq_false c6
            clear c6
            obtain rfl := Option.some.inj H
            go_wp2
            go_ret
            exact ⟨_, by first | rfl | (simp [errW_none, errW_some] <;> rfl) | (simp [*, errW_none, errW_some] <;> rfl), by (with_reducible repeat (first | apply Kd.R_alloc | apply Kd.R_drewN | apply Kd.R_drew)); exact HO_3.out, by repeat (first | (with_reducible first | exact HB.out | apply below_alloc | apply pw_below_drewN | apply below_drew1) | exact HB.out)⟩
    · rw [if_neg c3] at H
      exact absurd H (by simp)
  · rw [if_neg c2] at H
    exact absurd H (by simp)

/-! ### impl_copyEnv: function 77 -/
def impl_copyEnv.f (l0 : List (S51)) : Option ((List (S51))) := (some (([] : List (S51)) : List (S51))).bind fun y135 => (if y135.length + l0.length < 5864062014805 then (some (y135 ++ l0)) else (none))
set_option maxHeartbeats 8000000 in
set_option maxRecDepth 100000 in
theorem impl_copyEnv.calls (A0 : Option Addr) (c0 : Nat) (l0 : List (S51)) (r : List (S51)) (w : World) (hr0 : Kd.C k51 w A0 l0.length l0) (hc0 : l0.length ≤ c0) (h : impl_copyEnv.f l0 = some r) :
    Calls Try.prog 77 #[.slice A0 l0.length c0] w fun e w' => ∃ v0_ : Value, e = .returned (v0_) ∧ Kd.R k51 51 w' w.heap.size (fun _ => True) v0_ r ∧ Below w.heap.size w w' := by
  have HR0 := Aside0.mk hr0
  have HC0 := Aside0.mk hc0
  clear hr0 hc0
  have HB := Aside0.mk (Below.refl w.heap.size w)
  have H : ((some (([] : List (S51)) : List (S51))).bind fun y135 => (if y135.length + l0.length < 5864062014805 then (some (y135 ++ l0)) else (none))) = some r := h
  clear h
  obtain ⟨y135, hy135⟩ : ∃ y_ : List (S51), y_ = (([] : List (S51))) := ⟨_, rfl⟩
  replace H : (if y135.length + l0.length < 5864062014805 then (some (y135 ++ l0)) else (none)) = some r := by first | (rw [hy135]; with_reducible exact H) | (have H2_ := (Option.bind_some _ _).symm.trans H; rw [hy135]; with_reducible exact H2_) | (have H2_ := (Option.bind_some _ _).symm.trans H; with_reducible exact H2_) | with_reducible exact H | (rw [hy135]; exact H) | exact H
  have Ny135 := Aside0.mk hy135
  clear hy135
  by_cases c2 : y135.length + l0.length < 5864062014805
  · rw [if_pos c2] at H
    have LMc2 := Aside0.mk c2
    clear c2
    obtain ⟨y138, hy138⟩ : ∃ y_ : List (S51), y_ = (y135 ++ l0) := ⟨_, rfl⟩
    replace H : (some y138) = some r := by first | (rw [hy138]; with_reducible exact H) | (have H2_ := (Option.bind_some _ _).symm.trans H; rw [hy138]; with_reducible exact H2_) | (have H2_ := (Option.bind_some _ _).symm.trans H; with_reducible exact H2_) | with_reducible exact H | (rw [hy138]; exact H) | exact H
    have Ny138 := Aside0.mk hy138
    clear hy138
    obtain rfl := Option.some.inj H
    go_enter Try.func77, Try.ntmps77
    go_wp2_with (first | ((with_reducible refine gate_dst (N := 3) rfl ?_); refine Kd.R_lit k51 _ 51 ?hg (N := 3) ?hd (xs := ([] : List (S51))) (inner := []) (ok := fun _ => True) (okp := fun _ => True) ?hr ?hp (fun _ hk => hk) trivial (Below.refl _ _) (Nat.le_refl _) (by simp) ?_; (case hd => rfl); (case hg => rfl); (case hr => first | (go_simp; done) | (go_simp; rfl)); (case hp => exact (Reps.none _ _)); intro v136 w3 ho4 hb hg_ hnew_; clear hg_ hnew_; (first | rw [← Ny135.out] at ho4 | (simp only [Int.reduceToNat] at ho4; rw [← Ny135.out] at ho4)); have n0_ := Aside0.mk (Kd.R_lower ho4 (below_size (by repeat (first | (with_reducible first | exact HB.out | apply below_alloc | apply pw_below_drewN | apply below_drew1) | exact HB.out)))); have n1_ := Aside0.mk (below_step (by repeat (first | (with_reducible first | exact HB.out | apply below_alloc | apply pw_below_drewN | apply below_drew1) | exact HB.out)) hb); clear HB; have HO137 := n0_; have HB := n1_; clear n0_ n1_; clear hb ho4) | ((with_reducible refine gate_builtin (b := .append) (xs := #[.tmp 3, .tmp 4]) rfl ?_); at_builtin; refine Kd.R_append_rows k51 (w0 := w) w.heap.size rfl (.tmp 3) (.tmp 4) 32 51 (.agg #[(.string ⟨#[]⟩), (.int .i64 0)]) 24 rfl Try.underlying32 info51 rfl (by decide) (by omega) v136 y135 l0 _ _ _ (fun _ => True) (fun _ => False) rfl rfl ?aO ?aR (fun _ _ h => h) (fun _ h => h.elim) ?aF ?aB ?aS ?aL ?_; (case aR => repeat (first | exact (Kd.C_below HR0.out HB.out) | (with_reducible refine Kd.C_alloc ?_ _) | (with_reducible refine Kd.C_drewN ?_ _) | (with_reducible refine Kd.C_drew ?_))); (case aB => exact (by repeat (first | (with_reducible first | exact HB.out | apply below_alloc | apply pw_below_drewN | apply below_drew1) | exact HB.out))); (case aF => exact (fun _ _ => trivial)); (case aO => exact (by (with_reducible repeat (first | apply Kd.R_alloc | apply Kd.R_drewN | apply Kd.R_drew)); exact HO137.out)); (case aS => exact (below_size (by repeat (first | (with_reducible first | exact HB.out | apply below_alloc | apply pw_below_drewN | apply below_drew1) | exact HB.out)))); (case aL => have := LMc2.out; omega); intro v139 w5 ho hb hg hat; rw [← Ny138.out] at ho; have n0_ := Aside0.mk (hb); have n1_ := Aside0.mk (ho); clear HB; clear HO137; have HB := n0_; have HO140 := n1_; clear n0_ n1_; clear ho hb hg hat))
    go_ret
    exact ⟨_, by first | rfl | (simp [errW_none, errW_some] <;> rfl) | (simp [*, errW_none, errW_some] <;> rfl), by (with_reducible repeat (first | apply Kd.R_alloc | apply Kd.R_drewN | apply Kd.R_drew)); exact HO140.out, by repeat (first | (with_reducible first | exact HB.out | apply below_alloc | apply pw_below_drewN | apply below_drew1) | exact HB.out)⟩
  · rw [if_neg c2] at H
    exact absurd H (by simp)

-- NOT PRINTED: function 105 (impl_Var_105)

-- NOT PRINTED: function 83 (impl_Var_83)

/-- A name is among these. -/
def impl_EnvOnly.has (ns : List ByteArray) (v : ByteArray) : Bool := ns.any fun y => v.toList == y.toList
theorem impl_EnvOnly.has_get (ns : List ByteArray) (v : ByteArray) (j : Nat) (hj : j < ns.length) (h : (v.toList == (ns.getD j ByteArray.empty).toList) = true) : impl_EnvOnly.has ns v = true := by
  unfold impl_EnvOnly.has
  rw [List.any_eq_true]
  refine ⟨ns.getD j ByteArray.empty, ?_, h⟩
  rw [List.getD_eq_getElem?_getD, List.getElem?_eq_getElem hj, Option.getD_some]
  exact List.getElem_mem _
theorem impl_EnvOnly.has_not (ns : List ByteArray) (v : ByteArray) (h : ∀ j, j < ns.length → (v.toList == (ns.getD j ByteArray.empty).toList) = false) : impl_EnvOnly.has ns v = false := by
  unfold impl_EnvOnly.has
  rw [List.any_eq_false]
  intro y hy
  obtain ⟨j, hj, rfl⟩ := List.getElem_of_mem hy
  have := h j hj
  rw [List.getD_eq_getElem?_getD, List.getElem?_eq_getElem hj, Option.getD_some] at this
  rw [this]
  simp
set_option maxHeartbeats 2000000 in
/-- slices.Index: a place, not below 0 just where the name is among them. -/
theorem impl_EnvOnly.index (A0 : Option Addr) (c0 : Nat) (l : List ByteArray) (v : ByteArray) (w : World) (hr : Kd.C Kd.string w A0 l.length l) :
    Calls Try.prog 106 #[.slice A0 l.length c0, .string v] w fun e w' => ∃ r : Int, e = .returned (.int .i64 r) ∧ decide (0 ≤ r) = impl_EnvOnly.has l v ∧ Below w.heap.size w w' := by
  have hbig : l.length ≤ 9223372036854775807 := hr.2.1
  have HIT := impl_EnvOnly.has_get l v
  have ALL := impl_EnvOnly.has_not l v
  obtain ⟨R, hR⟩ : ∃ R, R = impl_EnvOnly.has l v := ⟨_, rfl⟩
  rw [← hR] at HIT ALL ⊢
  clear hR
  have hget : ∀ j : Nat, j < l.length → ∃ ad, A0 = some ad ∧ ∀ W, Below w.heap.size w W → W.cell? (ad.add j) = some (.string (l.getD j ByteArray.empty)) := by
    intro j hj
    obtain ⟨ad, c, hA, hl, hK, hcells⟩ := ReadsRow.get_ hr ByteArray.empty (j : Int) (by omega) (by omega)
    rw [Int.toNat_natCast] at hK hcells
    have hc : c = [.string (l.getD j ByteArray.empty)] := hK
    subst hc
    have e0 : w.cell? (ad.add (j * 1)) = some (.string (l.getD j ByteArray.empty)) := hcells 0 _ rfl
    rw [Nat.mul_one] at e0
    have hblk : (ad.add j).block < w.heap.size := World.block_lt_of_cell? _ _ e0
    exact ⟨ad, hA, fun W hW => (hW.cell hblk).trans e0⟩
  clear hr
  go_enter Try.func106, Try.ntmps106
  go_wp2
  go_loopg [5, 8] l.length (fun gg _ s8 wr => ∃ kk : Nat, kk ≤ l.length ∧ l.length - kk ≤ gg ∧ s8 = .int .i64 kk ∧ Aside (Below w.heap.size w wr) ∧ Aside (∀ j, j < kk → (v.toList == (l.getD j ByteArray.empty).toList) = false))
  case atStart => exact ⟨0, Nat.zero_le _, by omega, rfl, Below.refl _ w, fun j hj => absurd hj (Nat.not_lt_zero _)⟩
  case round =>
    obtain ⟨kk, hkk, hg, rfl, BW, A⟩ := hrel
    by_cases hlt : kk < l.length
    · have hltz : (kk : Int) < (l.length : Int) := by omega
      obtain ⟨ad, rfl, hload⟩ := hget kk hlt
      have l0 := hload wr BW.out
      clear hget hload
      generalize hy : l.getD kk ByteArray.empty = y at l0
      have B : Aside (l.getD kk ByteArray.empty = y) := hy
      clear hy
      cases hq : (v.toList == y.toList) with
      | true =>
        go_wp2
        go_ret
        refine ⟨_, rfl, ?_, BW.out⟩
        rw [HIT kk hlt (by rw [B.out]; exact hq)]
        simp
      | false =>
        go_wp2
        go_roundg (l.length - (kk + 1))
        case measure => omega
        case rel =>
          refine ⟨kk + 1, by omega, Nat.le_refl _, by go_num, BW.out, ?_⟩
          intro j hj
          by_cases hjk : j = kk
          · subst hjk; rw [B.out]; exact hq
          · exact A.out j (by omega)
    · have hge : ¬ (kk : Int) < (l.length : Int) := by omega
      go_wp2
      go_ret
      refine ⟨_, rfl, ?_, BW.out⟩
      rw [ALL (fun j hj => A.out j (by omega))]
      rfl
/-- slices.Contains. -/
theorem impl_EnvOnly.contains (A0 : Option Addr) (c0 : Nat) (l : List ByteArray) (v : ByteArray) (w : World) (hr : Kd.C Kd.string w A0 l.length l) :
    Calls Try.prog 85 #[.slice A0 l.length c0, .string v] w fun e w' => e = .returned (.bool (impl_EnvOnly.has l v)) ∧ Below w.heap.size w w' := by
  have hcon := impl_EnvOnly.index A0 c0 l v w hr
  generalize impl_EnvOnly.has l v = R at hcon ⊢
  go_enter Try.func85, Try.ntmps85
  go_wp2_with (go_at_call 106; refine hcon.mono ?_; rintro e w' ⟨r, rfl, hr2, hb'⟩)
  go_ret
  exact ⟨by rw [← hr2]; rfl, hb'⟩
/-- The closure: false just where the name is among them. -/
theorem impl_EnvOnly.gives (An : Option Addr) (cn : Nat) (ns : List ByteArray) (gn : Nat) (W : World) (hcell : W.cell? ⟨gn, 0, none⟩ = some (.slice An ns.length cn)) (hr : Kd.C Kd.string W An ns.length ns) (x : S51) :
    Calls Try.prog 84 #[.agg #[.string x.f0, .int .i64 x.f1], .pointer (some ⟨gn, 0, none⟩)] W fun e w' => e = .returned (.bool (!impl_EnvOnly.has ns x.f0)) ∧ Below W.heap.size W w' := by
  have hB : gn < W.heap.size := World.block_lt_of_cell? _ _ hcell
  have hne : gn ≠ W.heap.size := by omega
  have hcon := impl_EnvOnly.contains An cn ns x.f0 (W.alloc (.cells #[.string x.f0, .int .i64 x.f1] 51)) (Kd.C_below hr ((Below.refl _ W).alloc (Nat.le_refl _) _))
  generalize impl_EnvOnly.has ns x.f0 = R at hcon ⊢
  go_enter Try.func84, Try.ntmps84
  go_wp2_with (go_at_call 85; refine hcon.mono ?_; rintro e w' ⟨rfl, hb'⟩)
  go_ret
  exact ⟨rfl, ((Below.refl _ W).alloc (Nat.le_refl _) _).trans (hb'.mono (by simp))⟩
/-- What is asked of a predicate at elements: in every world that differs from w in block g alone it tells p, and leaves what lies there. -/
def impl_EnvOnly.Tells (f : FuncId) (lb : Value) (p : S51 → Bool) (w : World) (g : Option Nat) : Prop :=
  ∀ (W : World) (x : S51), w.grownBy W g → Calls Try.prog f #[.agg #[.string x.f0, .int .i64 x.f1], lb] W fun e w' => e = .returned (.bool (p x)) ∧ Below W.heap.size W w'
theorem impl_EnvOnly.cells51 (w : World) (x : S51) (cs : List Value) (h : k51.K w x cs) : cs = [.string x.f0, .int .i64 x.f1] := by
  obtain ⟨c0, c1, rfl, h0, h1⟩ := h
  have h0' : c0 = [.string x.f0] := h0
  have h1' : c1 = [.int .i64 x.f1] := h1
  subst h0' h1'
  rfl
set_option maxHeartbeats 2000000 in
/-- slices.IndexFunc: the first place at which p holds, or -1. -/
theorem impl_EnvOnly.idx (A0 : Option Addr) (c0 : Nat) (l : List S51) (lb : Value) (p : S51 → Bool) (w : World) (hr : Kd.C k51 w A0 l.length l) (hp : impl_EnvOnly.Tells 84 lb p w none) :
    Calls Try.prog 105 #[.slice A0 l.length c0, .func (.func 84) #[] #[lb]] w fun e w' => ((e = .returned (.int .i64 (-1)) ∧ ∀ j, j < l.length → p (l.getD j z51) = false) ∨
      ∃ n : Nat, e = .returned (.int .i64 n) ∧ n < l.length ∧ p (l.getD n z51) = true ∧ ∀ j, j < n → p (l.getD j z51) = false) ∧ Below w.heap.size w w' := by
  have hbig : l.length ≤ 9223372036854775807 := hr.2.1
  have hget : ∀ j : Nat, j < l.length → ∃ ad, A0 = some ad ∧ ∀ W, Below w.heap.size w W → W.cell? (ad.add (j * 2)) = some (.string (l.getD j z51).f0) ∧
      W.cell? ⟨(ad.add (j * 2)).block, (ad.add (j * 2)).off + 1, none⟩ = some (.int .i64 (l.getD j z51).f1) := by
    intro j hj
    obtain ⟨ad, c, hA, hl, hK, hcells⟩ := ReadsRow.get_ hr z51 (j : Int) (by omega) (by omega)
    rw [Int.toNat_natCast] at hK hcells
    obtain rfl := impl_EnvOnly.cells51 _ _ _ hK
    have e0 : w.cell? (ad.add (j * 2)) = some (.string (l.getD j z51).f0) := hcells 0 _ rfl
    have e1 : w.cell? (ad.add (j * 2 + 1)) = some (.int .i64 (l.getD j z51).f1) := hcells 1 _ rfl
    have p1 : ad.add (j * 2 + 1) = ⟨(ad.add (j * 2)).block, (ad.add (j * 2)).off + 1, none⟩ := by
      unfold Addr.add
      rw [if_neg (by omega)]
      by_cases h : j * 2 = 0
      · rw [if_pos h, h]
      · rw [if_neg h]; rfl
    rw [p1] at e1
    have hb3 : (ad.add (j * 2)).block < w.heap.size := World.block_lt_of_cell? _ _ e0
    exact ⟨ad, hA, fun W hW => ⟨(hW.cell hb3).trans e0, (hW.cell (p := ⟨(ad.add (j * 2)).block, (ad.add (j * 2)).off + 1, none⟩) hb3).trans e1⟩⟩
  clear hr
  go_enter Try.func105, Try.ntmps105
  go_wp2
  go_loopg [5, 8] l.length (fun gg _ s8 wr => ∃ kk : Nat, kk ≤ l.length ∧ l.length - kk ≤ gg ∧ s8 = .int .i64 kk ∧ Aside (Below w.heap.size w wr) ∧ Aside (∀ j, j < kk → p (l.getD j z51) = false))
  case atStart => exact ⟨0, Nat.zero_le _, by omega, rfl, Below.refl _ w, fun j hj => absurd hj (Nat.not_lt_zero _)⟩
  case round =>
    obtain ⟨kk, hkk, hg, rfl, BW, A⟩ := hrel
    by_cases hlt : kk < l.length
    · have hltz : (kk : Int) < (l.length : Int) := by omega
      obtain ⟨ad, rfl, hload⟩ := hget kk hlt
      obtain ⟨l0, l1⟩ := hload wr BW.out
      have hcall := hp wr (l.getD kk z51) ⟨BW.out.os, BW.out.tape, BW.out.output, BW.out.size, fun k hk _ => BW.out.block k hk⟩
      clear hget hload hp
      generalize hy : l.getD kk z51 = y at l0 l1 hcall
      have B : Aside (l.getD kk z51 = y) := hy
      clear hy
      obtain ⟨y0, y1⟩ := y
      simp only at l0 l1 hcall
      cases hq : p ⟨y0, y1⟩ with
      | true =>
        rw [hq] at hcall
        go_wp2_with (go_at_call 84; refine hcall.mono ?_; rintro e w' ⟨rfl, hb'⟩)
        go_ret
        exact ⟨.inr ⟨kk, rfl, hlt, by rw [B.out]; exact hq, A.out⟩, BW.out.trans (hb'.mono BW.out.size)⟩
      | false =>
        rw [hq] at hcall
        go_wp2_with (go_at_call 84; refine hcall.mono ?_; rintro e w' ⟨rfl, hb'⟩)
        go_roundg (l.length - (kk + 1))
        case measure => omega
        case rel =>
          refine ⟨kk + 1, by omega, Nat.le_refl _, by go_num, BW.out.trans (hb'.mono BW.out.size), ?_⟩
          intro j hj
          by_cases hjk : j = kk
          · subst hjk; rw [B.out]; exact hq
          · exact A.out j (by omega)
    · have hge : ¬ (kk : Int) < (l.length : Int) := by omega
      go_wp2
      go_ret
      exact ⟨.inl ⟨rfl, fun j hj => A.out j (by omega)⟩, BW.out⟩
theorem impl_EnvOnly.all_stay (p : S51 → Bool) (xs : List S51) (h : ∀ j, j < xs.length → p (xs.getD j z51) = false) : xs.filter (fun x => !p x) = xs := by
  rw [List.filter_eq_self]
  intro y hy
  obtain ⟨j, hj, rfl⟩ := List.getElem_of_mem hy
  have := h j hj
  rw [List.getD_eq_getElem?_getD, List.getElem?_eq_getElem hj, Option.getD_some] at this
  rw [this]
  rfl
theorem impl_EnvOnly.grown_of_below {B : Nat} {w w' : World} (h : Below B w w') (hB : w.heap.size ≤ B) (row : Option Nat) : w.grownBy w' row := ⟨h.os, h.tape, h.output, h.size, fun k hk _ => h.block k (by omega)⟩
theorem impl_EnvOnly.grown_alloc {w wr : World} {row : Option Nat} (h : w.grownBy wr row) (o : Obj) : w.grownBy (wr.alloc o) row := by
  have hb := (Below.refl wr.heap.size wr).alloc (Nat.le_refl _) o
  exact ⟨hb.os.trans h.os, hb.tape.trans h.tape, hb.output.trans h.output, Nat.le_trans h.size hb.size, fun k hk hr => (hb.block k (Nat.lt_of_lt_of_le hk h.size)).trans (h.block k hk hr)⟩
theorem impl_EnvOnly.grown_trans {w wr w2 : World} {row : Option Nat} (h : w.grownBy wr row) (hb : Below wr.heap.size wr w2) : w.grownBy w2 row :=
  ⟨hb.os.trans h.os, hb.tape.trans h.tape, hb.output.trans h.output, Nat.le_trans h.size hb.size, fun k hk hr => (hb.block k (Nat.lt_of_lt_of_le hk h.size)).trans (h.block k hk hr)⟩
theorem impl_EnvOnly.below_alloc_trans {wr w2 : World} {o : Obj} (h : Below (wr.alloc o).heap.size (wr.alloc o) w2) : Below wr.heap.size wr w2 :=
  ((Below.refl wr.heap.size wr).alloc (Nat.le_refl _) o).trans (h.mono (by simp))
theorem impl_EnvOnly.m51 (w : World) (base : Nat) (ok : Nat → Prop) (x : S51) : k51.M w base ok x [.string x.f0, .int .i64 x.f1] := ⟨[.string x.f0], [.int .i64 x.f1], rfl, rfl, rfl⟩
theorem impl_EnvOnly.next (xs ds : List S51) (j : Nat) (hj : j < xs.length) (hl : ds.length = xs.length) (BD : ds.drop j = xs.drop j) (y : S51) (hy : ds.getD j z51 = y) : ds.drop (j + 1) = xs.drop (j + 1) ∧ xs.take (j + 1) = xs.take j ++ [y] := by
  have h1 : j < ds.length := by omega
  rw [List.drop_eq_getElem_cons h1, List.drop_eq_getElem_cons hj, List.cons.injEq] at BD
  rw [List.getD_eq_getElem?_getD, List.getElem?_eq_getElem h1, Option.getD_some] at hy
  refine ⟨BD.2, ?_⟩
  rw [List.take_add_one, List.getElem?_eq_getElem hj, ← BD.1, hy]
  rfl
theorem impl_EnvOnly.step_del (p : S51 → Bool) (xs ds : List S51) (i j : Nat) (hj : j < xs.length) (hl : ds.length = xs.length) (BD : ds.drop j = xs.drop j) (BT : ds.take i = (xs.take j).filter fun x => !p x) (y : S51) (hy : ds.getD j z51 = y) (hq : p y = true) :
    ds.drop (j + 1) = xs.drop (j + 1) ∧ ds.take i = (xs.take (j + 1)).filter fun x => !p x := by
  obtain ⟨h1, h2⟩ := impl_EnvOnly.next xs ds j hj hl BD y hy
  refine ⟨h1, ?_⟩
  rw [h2, List.filter_append, ← BT, List.filter_cons, hq, if_neg (by simp), List.filter_nil, List.append_nil]
theorem impl_EnvOnly.step_keep (p : S51 → Bool) (xs ds : List S51) (i j : Nat) (hij : i < j) (hj : j < xs.length) (hl : ds.length = xs.length) (BD : ds.drop j = xs.drop j) (BT : ds.take i = (xs.take j).filter fun x => !p x) (y : S51) (hy : ds.getD j z51 = y) (hq : p y = false) :
    (ds.set i y).drop (j + 1) = xs.drop (j + 1) ∧ (ds.set i y).take (i + 1) = (xs.take (j + 1)).filter fun x => !p x := by
  obtain ⟨h1, h2⟩ := impl_EnvOnly.next xs ds j hj hl BD y hy
  refine ⟨by rw [List.drop_set_of_lt (by omega)]; exact h1, ?_⟩
  rw [h2, List.filter_append, ← BT, List.filter_cons, hq, if_pos (by simp), List.filter_nil, List.take_add_one, List.getElem?_set_self (by omega), List.take_set_of_le (Nat.le_refl i)]
  rfl
theorem impl_EnvOnly.cut {W : World} {base g n c i : Nat} {ds : List S51} {vs : List Value} (h : Kd.R k51 51 W base (fun _ => True) (.slice (some ⟨g, 0, none⟩) n c) ds) (hi : i ≤ n) (hvs : i * 2 + vs.length ≤ c * 2) :
    Kd.R k51 51 (W.setCells g (i * 2) vs) base (fun _ => True) (.slice (some ⟨g, 0, none⟩) i c) (ds.take i) ∧ W.grownBy (W.setCells g (i * 2) vs) (some g) := by
  have hn := (Kd.R_reads' h).1
  obtain ⟨h0, inner, ⟨ho1, ho2⟩, hr⟩ := Kd.R_take (m := i) h (by omega)
  obtain ⟨s1, s2, s3, s4⟩ := setCells_same g vs (i * 2) W
  refine ⟨?_, s1, s2, s3, by omega, fun k hk hne => setCells_far vs _ k (fun e => hne (by rw [e]))⟩
  have hlen : (ds.take i).length = i := by rw [List.length_take]; omega
  rw [hlen] at ho1 ho2
  rcases ho2 with ⟨hv, _⟩ | ⟨g', cap', cur, hv, hb, hh, hnc', hcm, hcs, ht⟩
  · cases hv
  injection hv with ha _ hc
  injection ha with ha
  injection ha with hg
  subst hg; subst hc
  have hcs2 : cur.size = c * 2 := hcs
  have ht2 : cur.toList.take (i * 2) = inner := ht
  obtain ⟨cur', h3, h4, h5⟩ := setCells_row vs (i * 2) W cur hh (by omega)
  refine ⟨fun _ _ => trivial, inner, ⟨by rw [hlen]; exact ho1, .inr ⟨g, c, cur', by rw [hlen], hb, h3, by omega, hcm, by show cur'.size = c * 2; omega, ?_⟩⟩, hr.imp_ (fun x cs hp => ?_)⟩
  · rw [hlen]
    show cur'.toList.take (i * 2) = inner
    have hl : (cur.toList.take (i * 2)).length = i * 2 := by rw [List.length_take, Array.length_toList]; omega
    rw [h5, List.append_assoc, List.take_append_of_le_length (by omega), List.take_of_length_le (by omega)]
    exact ht2
  · have := impl_EnvOnly.cells51 _ _ _ (k51.K_of_M hp)
    subst this
    exact impl_EnvOnly.m51 _ _ _ _
theorem impl_EnvOnly.zeros_length (n : Nat) : (Builtin.zeroCells #[.string ⟨#[]⟩, .int .i64 0] n).toList.length = n * 2 := by simp [Builtin.zeroCells]
theorem impl_EnvOnly.clear (w : World) (g o n c : Nat) (hn : 0 < n) (ty : TypeId) (hc : ∀ j, j < n * 2 → (w.cell? ⟨g, o + j, none⟩).isSome = true) (hf : ∀ j, j < n * 2 → w.frozen? ⟨g, o + j, none⟩ = false) :
    (Builtin.clear_ #[32] ty #[.slice (some ⟨g, o, none⟩) n c]).run Try.prog w = .ok (.tuple #[]) (w.setCells g o (Builtin.zeroCells #[.string ⟨#[]⟩, .int .i64 0] n).toList) := by
  have hone : ∀ v ∈ (Builtin.zeroCells #[.string ⟨#[]⟩, .int .i64 0] n).toList, v.oneCell' = true := by
    intro v hv
    simp only [Builtin.zeroCells, Array.toList_map, List.mem_map] at hv
    obtain ⟨i, _, rfl⟩ := hv
    have : i % 2 = 0 ∨ i % 2 = 1 := by omega
    show (#[Value.string ⟨#[]⟩, .int .i64 0][i % 2]!).oneCell' = true
    rcases this with e | e <;> rw [e] <;> rfl
  have hst := run_storeCells_cells (P := Try.prog) g o (Builtin.zeroCells #[.string ⟨#[]⟩, .int .i64 0] n).toList 0 w (by rw [impl_EnvOnly.zeros_length]; simpa using hc) (by rw [impl_EnvOnly.zeros_length]; simpa using hf) hone
  simp only [Nat.add_zero] at hst
  obtain ⟨m, rfl⟩ : ∃ m, n = m + 1 := ⟨n - 1, by omega⟩
  simp [Builtin.clear_, run_underlying Try.underlying32, Try.zeroValue51, Value.cells, hst]
theorem impl_EnvOnly.grown_by {w wr w2 : World} {g : Nat} (h : w.grownBy wr (some g)) (hb : wr.grownBy w2 (some g)) : w.grownBy w2 (some g) :=
  ⟨hb.os.trans h.os, hb.tape.trans h.tape, hb.output.trans h.output, Nat.le_trans h.size hb.size, fun k hk hr => (hb.block k (Nat.lt_of_lt_of_le hk h.size) hr).trans (h.block k hk hr)⟩
set_option maxHeartbeats 4000000 in
/-- slices.DeleteFunc over a row of the call's own: what p tells is left out. -/
theorem impl_EnvOnly.del (v : Value) (xs : List S51) (lb : Value) (p : S51 → Bool) (w : World) (base : Nat) (hR : Kd.R k51 51 w base (fun _ => True) v xs) (hp : impl_EnvOnly.Tells 84 lb p w v.ownBlock) :
    Calls Try.prog 83 #[v, .func (.func 84) #[] #[lb]] w fun e w' => ∃ v' : Value, e = .returned v' ∧ Kd.R k51 51 w' base (fun _ => True) v' (xs.filter fun x => !p x) ∧ w.grownBy w' v.ownBlock := by
  obtain ⟨A, c, hv, hc, hC⟩ := Kd.R_reads hR
  have hbig : xs.length ≤ 9223372036854775807 := hC.2.1
  have hidx := impl_EnvOnly.idx A c xs lb p w hC (fun W x hg => hp W x ⟨hg.os, hg.tape, hg.output, hg.size, fun k hk _ => hg.block k hk (by simp)⟩)
  subst hv
  clear hC
  go_enter Try.func83, Try.ntmps83
  go_wp2_with (go_at_call 105; refine hidx.mono ?_; rintro e w1 ⟨⟨rfl, hall⟩ | ⟨n, rfl, hn, hpn, hfirst⟩, hb1⟩)
  · go_wp2
    go_ret
    exact ⟨_, rfl, by rw [impl_EnvOnly.all_stay p xs hall]; exact Kd.R_below hR hb1, impl_EnvOnly.grown_of_below hb1 (Nat.le_refl _) _⟩
  · obtain ⟨g, cap, e0, hbase, hgw, cells, hcells⟩ := Kd.R_form hR (by omega)
    injection e0 with eA _ eC
    subst eA eC
    have hown : (Value.slice (some ⟨g, 0, none⟩) xs.length c).ownBlock = some g := rfl
    rw [hown] at hp
    have hR1 := Kd.R_below hR hb1
    have hne1 : ¬ (n : Int) = -1 := by omega
    clear hidx hR hcells
    go_loopg [5, 6] xs.length (fun gg s5 s6 wr => ∃ (i j : Nat) (ds : List S51), i < j ∧ j ≤ xs.length ∧ xs.length - j ≤ gg ∧ s5 = .int .i64 i ∧ s6 = .int .i64 j ∧ Aside (w.grownBy wr (some g)) ∧ Aside (Kd.R k51 51 wr base (fun _ => True) (.slice (some ⟨g, 0, none⟩) xs.length c) ds) ∧
      Aside (ds.drop j = xs.drop j) ∧ Aside (ds.take i = (xs.take j).filter fun x => !p x))
    case atStart =>
      refine ⟨n, n + 1, xs, by omega, by omega, by omega, rfl, by go_num, impl_EnvOnly.grown_of_below hb1 (Nat.le_refl _) _, hR1, rfl, ?_⟩
      have h2 : xs.take (n + 1) = xs.take n ++ [xs.getD n z51] := by
        rw [List.take_add_one, List.getElem?_eq_getElem hn, List.getD_eq_getElem?_getD, List.getElem?_eq_getElem hn]
        rfl
      have h3 := impl_EnvOnly.all_stay p (xs.take n) (fun j hj => by
        have hj2 : j < n := by rw [List.length_take] at hj; omega
        have := hfirst j hj2
        rw [List.getD_eq_getElem?_getD, List.getElem?_take, if_pos hj2, ← List.getD_eq_getElem?_getD]
        exact this)
      show xs.take n = (xs.take (n + 1)).filter fun x => !p x
      rw [h2, List.filter_append, h3, List.filter_cons, hpn, if_neg (by simp), List.filter_nil, List.append_nil]
    case round =>
      obtain ⟨i, j, ds, hij, hjl, hg, rfl, rfl, BG, BR, BD, BT⟩ := hrel
      by_cases hlt : j < xs.length
      · have hltz : (j : Int) < (xs.length : Int) := by omega
        obtain ⟨cs, hcl, hM, hcells, hfr⟩ := Kd.R_elem BR.out z51 (j : Int) (by omega) hltz
        rw [Int.toNat_natCast] at hM hcells hfr
        obtain rfl := impl_EnvOnly.cells51 _ _ _ (k51.K_of_M hM)
        have l0 : wr.cell? ⟨g, j * 2, none⟩ = some (.string (ds.getD j z51).f0) := hcells 0 _ rfl
        have l1 : wr.cell? ⟨g, j * 2 + 1, none⟩ = some (.int .i64 (ds.getD j z51).f1) := hcells 1 _ rfl
        clear hcells hM hcl hfr
        generalize hy : ds.getD j z51 = y at l0 l1
        have B : Aside (ds.getD j z51 = y) := hy
        clear hy
        obtain ⟨y0, y1⟩ := y
        simp only at l0 l1
        have hcall := hp (wr.alloc (.cells #[.string y0, .int .i64 y1] 51)) ⟨y0, y1⟩ (impl_EnvOnly.grown_alloc BG.out _)
        simp only at hcall
        have hgw2 : g < wr.heap.size := Nat.lt_of_lt_of_le hgw BG.out.size
        cases hq : p ⟨y0, y1⟩ with
        | true =>
          rw [hq] at hcall
          go_wp2_with (go_at_call 84; refine hcall.mono ?_; rintro e w2 ⟨rfl, hb2⟩)
          go_roundg (xs.length - (j + 1))
          case measure => omega
          case rel =>
            have hbb := impl_EnvOnly.below_alloc_trans hb2
            obtain ⟨q1, q2⟩ := impl_EnvOnly.step_del p xs ds i j hlt (Kd.R_reads' BR.out).1.symm BD.out BT.out _ B.out hq
            exact ⟨i, j + 1, ds, by omega, by omega, Nat.le_refl _, rfl, by go_num, impl_EnvOnly.grown_trans BG.out hbb, Kd.R_below BR.out hbb, q1, q2⟩
        | false =>
          rw [hq] at hcall
          have keyW : ∀ w2 : World, Below (wr.alloc (.cells #[.string y0, .int .i64 y1] 51)).heap.size (wr.alloc (.cells #[.string y0, .int .i64 y1] 51)) w2 →
              w2.cell? ⟨wr.heap.size, 0, none⟩ = some (.string y0) ∧ w2.cell? ⟨wr.heap.size, 1, none⟩ = some (.int .i64 y1) ∧ Kd.R k51 51 w2 base (fun _ => True) (.slice (some ⟨g, 0, none⟩) xs.length c) ds ∧ w.grownBy w2 (some g) := fun w2 hb2 => by
            have hbb := impl_EnvOnly.below_alloc_trans hb2
            refine ⟨(hb2.cell (p := ⟨wr.heap.size, 0, none⟩) (by simp)).trans (by simp), (hb2.cell (p := ⟨wr.heap.size, 1, none⟩) (by simp)).trans (by simp), Kd.R_below BR.out hbb, impl_EnvOnly.grown_trans BG.out hbb⟩
          have hil : (i : Int) < (xs.length : Int) := by omega
          go_wp2_with (go_at_call 84; refine hcall.mono ?_; rintro e w2 ⟨rfl, hb2⟩; obtain ⟨v0, v1, BR2, BG2⟩ := keyW w2 hb2; obtain ⟨cs2, hcl2, hM2, hcells2, hfr2⟩ := Kd.R_elem BR2 z51 (i : Int) (by omega) hil; rw [Int.toNat_natCast] at hM2 hcells2 hfr2; obtain rfl := impl_EnvOnly.cells51 _ _ _ (k51.K_of_M hM2); have m0 : w2.cell? ⟨g, i * 2, none⟩ = some (.string (ds.getD i z51).f0) := hcells2 0 _ rfl; have m1 : w2.cell? ⟨g, i * 2 + 1, none⟩ = some (.int .i64 (ds.getD i z51).f1) := hcells2 1 _ rfl; have f0 : w2.frozen? ⟨g, i * 2, none⟩ = false := hfr2 0; have f1 : w2.frozen? ⟨g, i * 2 + 1, none⟩ = false := hfr2 1; have HS := Aside0.mk (Kd.R_seg BR2 (i : Int) (by omega) hil hcl2 (by rw [Int.toNat_natCast]; exact hcells2) (seg := [.string y0, .int .i64 y1]) (j := 0) (show 0 + 2 ≤ 2 from by omega) (x' := (⟨y0, y1⟩ : S51)) (okp := fun k => True ∧ k ≠ g) (impl_EnvOnly.m51 _ _ _ ⟨y0, y1⟩) (fun _ hk => hk)); clear hcells2 hfr2)
          go_roundg (xs.length - (j + 1))
          case measure => omega
          case rel =>
            obtain ⟨HS1, HS2⟩ := HS.out
            rw [Int.toNat_natCast] at HS1 HS2
            obtain ⟨q1, q2⟩ := impl_EnvOnly.step_keep p xs ds i j hij hlt (Kd.R_reads' BR.out).1.symm BD.out BT.out _ B.out hq
            exact ⟨i + 1, j + 1, ds.set i ⟨y0, y1⟩, by omega, by omega, Nat.le_refl _, by go_num, by go_num, impl_EnvOnly.grown_by BG2 HS2, HS1, q1, q2⟩
      · have hge : ¬ (j : Int) < (xs.length : Int) := by omega
        obtain rfl : j = xs.length := by omega
        have hcl := impl_EnvOnly.clear wr g (i * 2) (xs.length - i) (c - i) (by omega)
        have CUT := Aside0.mk (impl_EnvOnly.cut (i := i) (vs := (Builtin.zeroCells #[.string ⟨#[]⟩, .int .i64 0] (xs.length - i)).toList) BR.out (by omega) (by rw [impl_EnvOnly.zeros_length]; omega))
        have hcell : ∀ q, q < (xs.length - i) * 2 → (wr.cell? ⟨g, i * 2 + q, none⟩).isSome = true ∧ wr.frozen? ⟨g, i * 2 + q, none⟩ = false := fun q hq => by
          obtain ⟨cs2, hcl2, hM2, hcells2, hfr2⟩ := Kd.R_elem BR.out z51 ((i + q / 2 : Nat) : Int) (by omega) (by omega)
          rw [Int.toNat_natCast] at hcells2 hfr2
          have e : i * 2 + q = (i + q / 2) * 2 + q % 2 := by omega
          have hl2 : q % 2 < cs2.length := by rw [hcl2]; show q % 2 < 2; omega
          refine ⟨?_, ?_⟩
          · rw [e, show wr.cell? ⟨g, (i + q / 2) * 2 + q % 2, none⟩ = some cs2[q % 2] from hcells2 _ _ (List.getElem?_eq_getElem hl2)]
            rfl
          · rw [e]
            exact hfr2 _
        have hclr := fun ty => hcl ty (fun q hq => (hcell q hq).1) (fun q hq => (hcell q hq).2)
        clear hcl hcell
        generalize (Builtin.zeroCells #[.string ⟨#[]⟩, .int .i64 0] (xs.length - i)).toList = zs at hclr CUT
        have hi1 : i ≤ xs.length := by omega
        have hi2 : xs.length ≤ c := hc
        go_wp2
        go_ret
        obtain ⟨C1, C2⟩ := CUT.out
        have BT2 := BT.out
        rw [List.take_length] at BT2
        exact ⟨_, rfl, by rw [← BT2]; exact C1, impl_EnvOnly.grown_by BG.out C2⟩
/-- The names the program's EnvOnly leaves. -/
def impl_EnvOnly.f (l0 : List (S51)) (l1 : List ByteArray) : Option (List (S51)) := (impl_copyEnv.f l0).bind fun t => some (t.filter fun x => !(!impl_EnvOnly.has l1 x.f0))
theorem impl_EnvOnly.calls (A0 : Option Addr) (c0 : Nat) (l0 : List (S51)) (A1 : Option Addr) (c1 : Nat) (l1 : List ByteArray) (r : List (S51)) (w : World) (hr0 : Kd.C k51 w A0 l0.length l0) (hc0 : l0.length ≤ c0) (hr1 : Kd.C Kd.string w A1 l1.length l1) (hc1 : l1.length ≤ c1) (h : impl_EnvOnly.f l0 l1 = some r) :
    Calls Try.prog 42 #[.slice A0 l0.length c0, .slice A1 l1.length c1] w fun e w' => ∃ v0_ : Value, e = .returned (v0_) ∧ Kd.R k51 51 w' w.heap.size (fun _ => True) v0_ r ∧ Below w.heap.size w w' := by
  unfold impl_EnvOnly.f at h
  obtain ⟨t, ht, h⟩ := Option.bind_eq_some_iff.mp h
  obtain rfl := Option.some.inj h
  clear h
  have hb0 : Below w.heap.size w (w.alloc (.cells #[.slice A1 l1.length c1] 47)) := (Below.refl w.heap.size w).alloc (Nat.le_refl _) _
  have hcopy := impl_copyEnv.calls A0 c0 l0 t (w.alloc (.cells #[.slice A1 l1.length c1] 47)) (Kd.C_below hr0 hb0) hc0 ht
  have hdel : ∀ (v0 : Value) (w1 : World), Kd.R k51 51 w1 (w.alloc (.cells #[.slice A1 l1.length c1] 47)).heap.size (fun _ => True) v0 t → Below (w.alloc (.cells #[.slice A1 l1.length c1] 47)).heap.size (w.alloc (.cells #[.slice A1 l1.length c1] 47)) w1 →
      Calls Try.prog 83 #[v0, .func (.func 84) #[] #[.pointer (some ⟨w.heap.size, 0, none⟩)]] w1 fun e w' => ∃ v' : Value, e = .returned v' ∧ Kd.R k51 51 w' w.heap.size (fun _ => True) v' (t.filter fun x => !(!impl_EnvOnly.has l1 x.f0)) ∧ Below w.heap.size w w' := by
    intro v0 w1 hR hb1
    have hsz : (w.alloc (.cells #[.slice A1 l1.length c1] 47)).heap.size = w.heap.size + 1 := by simp
    rw [hsz] at hR hb1
    have hown : ∀ k, v0.ownBlock = some k → w.heap.size + 1 ≤ k := fun k hk => by
      obtain ⟨inner, ho⟩ := Kd.R_own hR
      exact own_base ho k hk
    have hbw1 : Below w.heap.size w w1 := hb0.trans (hb1.mono (by omega))
    have hcell1 : w1.heap[w.heap.size]? = some (.cells #[.slice A1 l1.length c1] 47) := by
      rw [hb1.block w.heap.size (by omega)]
      show (w.heap.push _)[w.heap.size]? = _
      simp
    have hw1 : w.heap.size < w1.heap.size := by
      have := hb1.size
      rw [hsz] at this
      omega
    have hall : ∀ W, w1.grownBy W v0.ownBlock → Below w.heap.size w W := fun W hg => ⟨hg.os.trans hbw1.os, hg.tape.trans hbw1.tape, hg.output.trans hbw1.output, Nat.le_trans hbw1.size hg.size, fun k hk => (hg.block k (by omega) (fun e => by have := hown k e.symm; omega)).trans (hbw1.block k hk)⟩
    have hp : impl_EnvOnly.Tells 84 (.pointer (some ⟨w.heap.size, 0, none⟩)) (fun x => !impl_EnvOnly.has l1 x.f0) w1 v0.ownBlock := fun W x hg => by
      refine impl_EnvOnly.gives A1 c1 l1 w.heap.size W ?_ (Kd.C_below hr1 (hall W hg)) x
      have h2 : W.heap[w.heap.size]? = some (.cells #[.slice A1 l1.length c1] 47) := (hg.block w.heap.size hw1 (fun e => by have := hown _ e.symm; omega)).trans hcell1
      simp [World.cell?, h2]
    refine (impl_EnvOnly.del v0 t _ _ w1 _ hR hp).mono ?_
    rintro e w' ⟨v', rfl, hR', hg'⟩
    exact ⟨v', rfl, Kd.R_lower hR' (by omega), hall w' hg'⟩
  clear hr0 hr1
  generalize (t.filter fun x => !(!impl_EnvOnly.has l1 x.f0)) = T at hdel ⊢
  go_enter Try.func42, Try.ntmps42
  go_wp2_with (first | (go_at_call 77; refine hcopy.mono ?_; rintro e w1 ⟨v0, rfl, hR, hb1⟩) | (go_at_call 83; refine (hdel _ _ hR hb1).mono ?_; rintro e w2 ⟨v1, rfl, hR2, hb2⟩))
  go_ret
  exact ⟨_, rfl, hR2, hb2⟩

end Go.Proofs.Ytigibdkgimgknaa.MFnExactEnvOnly
