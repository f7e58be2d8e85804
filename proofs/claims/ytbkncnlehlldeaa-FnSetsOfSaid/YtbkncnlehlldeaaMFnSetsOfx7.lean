-- Made by this prover's wip/tools/myprint.py (the kit's print, with rules and contracts of this prover's own); Lean checks it.
import Derived.Test.YtbkncnlehlldeaaMFnSetsOfx0
import Derived.Test.YtbkncnlehlldeaaMFnSetsOfx1
import Derived.Test.YtbkncnlehlldeaaMFnSetsOfx2
import Derived.Test.YtbkncnlehlldeaaMFnSetsOfx3
import Derived.Test.YtbkncnlehlldeaaMFnSetsOfx4
import Derived.Test.YtbkncnlehlldeaaMFnSetsOfx5
import Derived.Test.YtbkncnlehlldeaaMFnSetsOfx6
namespace Go.Proofs.Ytbkncnlehlldeaa.MFnSetsOf
open Go.RowKit Go.Proofs.YtbkncnlehlldeaaW.PrintWords Go.Proofs.YtbkncnlehlldeaaW.PrintLast Go.Proofs.YtbkncnlehlldeaaW.PrintMore
attribute [local go_sem] max2_int min2_int max_two min_two max_three min_three max_four min_four   -- for this text's walks alone
set_option linter.unusedVariables false
set_option linter.unusedSimpArgs false

/-! ### laws_FnSetsOf: function 10 -/
mutual
def laws_FnSetsOf.l0 : Nat → ByteArray → ByteArray → Bool → ByteArray → Bool → ByteArray → ByteArray → Int → Int → Option (Bool)
  | 0, _, _, _, _, _, _, _, _, _ => none
  | k + 1, x3, x4, x5, x6, x7, x8, x9, x10, x11 => if x11 < (x3.size : Int) then (laws_FnSetsOf.j1 k x3 x4 x5 x6 x7 x8 x9 x10 x11 x5) else (laws_FnSetsOf.j1 k x3 x4 x5 x6 x7 x8 x9 x10 x11 false)
def laws_FnSetsOf.j1 : Nat → ByteArray → ByteArray → Bool → ByteArray → Bool → ByteArray → ByteArray → Int → Int → Bool → Option (Bool)
  | 0, _, _, _, _, _, _, _, _, _, _ => none
  | k + 1, x3, x4, x5, x6, x7, x8, x9, x10, x11, x41 => if x41 = true then (if 0 ≤ x11 then (if x11 < (x3.size : Int) then ((impl_InSet.f k x4 (bt x3 x11)).bind fun t285 => (if t285 = true then (laws_FnSetsOf.l0 k x3 x4 x5 x6 x7 x8 x9 x10 (wrap64 (x11 + 1))) else (some false))) else (none)) else (none)) else ((impl_SetOf.f k (⟨#[99, 98, 97, 98, 97]⟩ : ByteArray)).bind fun bt286 => (if (x5 == x7) = true then (if x4.toList = x6.toList then ((impl_SetOk.f k x8).bind fun t288 => ((spec_SetOk.f k x8).bind fun t289 => (if (t288 == t289) = true then ((impl_InSet.f k x9 x10).bind fun t290 => ((spec_InSet.f k x9 x10).bind fun t291 => (if (t290 == t291) = true then (if bt286.1.toList = ([97, 45, 99] : List UInt8) then ((impl_SetBytes.f k x8).bind fun t292 => ((spec_SetBytes.f k x8).bind fun t293 => (some (t292.toList == t293.toList)))) else (some false)) else (some false)))) else (some false)))) else (some false)) else (some false)))
end
def laws_FnSetsOf.f (k : Nat) (l0 : List Int) : Option (Bool) := (laws_big.f l0).bind fun t276 => (if t276 = true then (some true) else ((spec_DrawSetOf.f k l0).bind fun t277 => ((impl_SetOf.f k t277).bind fun bt278 => ((spec_SetOf.f k t277).bind fun bt280 => ((spec_DrawSetOk.f k l0).bind fun t282 => ((spec_DrawInSet.f k l0).bind fun bt283 => (laws_FnSetsOf.l0 k t277 bt278.1 bt278.2 bt280.1 bt280.2 t282 bt283.1 bt283.2 0)))))))
theorem laws_FnSetsOf.mono_l : ∀ k, (∀ y0 y1 y2 y3 y4 y5 y6 y7 y8, LeO (laws_FnSetsOf.l0 k y0 y1 y2 y3 y4 y5 y6 y7 y8) (laws_FnSetsOf.l0 (k + 1) y0 y1 y2 y3 y4 y5 y6 y7 y8)) ∧ (∀ y0 y1 y2 y3 y4 y5 y6 y7 y8 y9, LeO (laws_FnSetsOf.j1 k y0 y1 y2 y3 y4 y5 y6 y7 y8 y9) (laws_FnSetsOf.j1 (k + 1) y0 y1 y2 y3 y4 y5 y6 y7 y8 y9))
  | 0 => ⟨fun _ _ _ _ _ _ _ _ _ r h => by simp [laws_FnSetsOf.l0] at h, fun _ _ _ _ _ _ _ _ _ _ r h => by simp [laws_FnSetsOf.j1] at h⟩
  | k + 1 => by
    obtain ⟨ih0, ih1⟩ := laws_FnSetsOf.mono_l k
    refine ⟨?_, ?_⟩
    · intro y0 y1 y2 y3 y4 y5 y6 y7 y8
      unfold laws_FnSetsOf.l0
      repeat' first
      | (with_reducible exact ih0 _ _ _ _ _ _ _ _ _)
      | (with_reducible exact ih1 _ _ _ _ _ _ _ _ _ _)
      | (with_reducible exact impl_InSet.mono _ _ _)
      | (with_reducible exact impl_SetBytes.mono _ _)
      | (with_reducible exact impl_SetOf.mono _ _)
      | (with_reducible exact impl_SetOk.mono _ _)
      | (with_reducible exact spec_DrawInSet.mono _ _)
      | (with_reducible exact spec_DrawSetOf.mono _ _)
      | (with_reducible exact spec_DrawSetOk.mono _ _)
      | (with_reducible exact spec_InSet.mono _ _ _)
      | (with_reducible exact spec_SetBytes.mono _ _)
      | (with_reducible exact spec_SetOf.mono _ _)
      | (with_reducible exact spec_SetOk.mono _ _)
      | (with_reducible exact LeO.refl _)
      | (with_reducible exact LeO.none _)
      | (with_reducible refine LeO.ite ?_ ?_)
      | (with_reducible refine LeO.bind ?_ (fun _ => ?_))
      | exact ih0 _ _ _ _ _ _ _ _ _
      | exact ih1 _ _ _ _ _ _ _ _ _ _
      | exact impl_InSet.mono _ _ _
      | exact impl_SetBytes.mono _ _
      | exact impl_SetOf.mono _ _
      | exact impl_SetOk.mono _ _
      | exact spec_DrawInSet.mono _ _
      | exact spec_DrawSetOf.mono _ _
      | exact spec_DrawSetOk.mono _ _
      | exact spec_InSet.mono _ _ _
      | exact spec_SetBytes.mono _ _
      | exact spec_SetOf.mono _ _
      | exact spec_SetOk.mono _ _
      | exact LeO.none _
      | refine LeO.ite ?_ ?_
      | refine LeO.bind ?_ (fun _ => ?_)
    · intro y0 y1 y2 y3 y4 y5 y6 y7 y8 y9
      unfold laws_FnSetsOf.j1
      repeat' first
      | (with_reducible exact ih0 _ _ _ _ _ _ _ _ _)
      | (with_reducible exact ih1 _ _ _ _ _ _ _ _ _ _)
      | (with_reducible exact impl_InSet.mono _ _ _)
      | (with_reducible exact impl_SetBytes.mono _ _)
      | (with_reducible exact impl_SetOf.mono _ _)
      | (with_reducible exact impl_SetOk.mono _ _)
      | (with_reducible exact spec_DrawInSet.mono _ _)
      | (with_reducible exact spec_DrawSetOf.mono _ _)
      | (with_reducible exact spec_DrawSetOk.mono _ _)
      | (with_reducible exact spec_InSet.mono _ _ _)
      | (with_reducible exact spec_SetBytes.mono _ _)
      | (with_reducible exact spec_SetOf.mono _ _)
      | (with_reducible exact spec_SetOk.mono _ _)
      | (with_reducible exact LeO.refl _)
      | (with_reducible exact LeO.none _)
      | (with_reducible refine LeO.ite ?_ ?_)
      | (with_reducible refine LeO.bind ?_ (fun _ => ?_))
      | exact ih0 _ _ _ _ _ _ _ _ _
      | exact ih1 _ _ _ _ _ _ _ _ _ _
      | exact impl_InSet.mono _ _ _
      | exact impl_SetBytes.mono _ _
      | exact impl_SetOf.mono _ _
      | exact impl_SetOk.mono _ _
      | exact spec_DrawInSet.mono _ _
      | exact spec_DrawSetOf.mono _ _
      | exact spec_DrawSetOk.mono _ _
      | exact spec_InSet.mono _ _ _
      | exact spec_SetBytes.mono _ _
      | exact spec_SetOf.mono _ _
      | exact spec_SetOk.mono _ _
      | exact LeO.none _
      | refine LeO.ite ?_ ?_
      | refine LeO.bind ?_ (fun _ => ?_)
theorem laws_FnSetsOf.mono : ∀ a0 k, LeO (laws_FnSetsOf.f k a0) (laws_FnSetsOf.f (k + 1) a0) := by
  intro a0 k
  obtain ⟨ih0, ih1⟩ := laws_FnSetsOf.mono_l k
  unfold laws_FnSetsOf.f
  repeat' first
      | (with_reducible exact ih0 _ _ _ _ _ _ _ _ _)
      | (with_reducible exact ih1 _ _ _ _ _ _ _ _ _ _)
      | (with_reducible exact impl_InSet.mono _ _ _)
      | (with_reducible exact impl_SetBytes.mono _ _)
      | (with_reducible exact impl_SetOf.mono _ _)
      | (with_reducible exact impl_SetOk.mono _ _)
      | (with_reducible exact spec_DrawInSet.mono _ _)
      | (with_reducible exact spec_DrawSetOf.mono _ _)
      | (with_reducible exact spec_DrawSetOk.mono _ _)
      | (with_reducible exact spec_InSet.mono _ _ _)
      | (with_reducible exact spec_SetBytes.mono _ _)
      | (with_reducible exact spec_SetOf.mono _ _)
      | (with_reducible exact spec_SetOk.mono _ _)
      | (with_reducible exact LeO.refl _)
      | (with_reducible exact LeO.none _)
      | (with_reducible refine LeO.ite ?_ ?_)
      | (with_reducible refine LeO.bind ?_ (fun _ => ?_))
      | exact ih0 _ _ _ _ _ _ _ _ _
      | exact ih1 _ _ _ _ _ _ _ _ _ _
      | exact impl_InSet.mono _ _ _
      | exact impl_SetBytes.mono _ _
      | exact impl_SetOf.mono _ _
      | exact impl_SetOk.mono _ _
      | exact spec_DrawInSet.mono _ _
      | exact spec_DrawSetOf.mono _ _
      | exact spec_DrawSetOk.mono _ _
      | exact spec_InSet.mono _ _ _
      | exact spec_SetBytes.mono _ _
      | exact spec_SetOf.mono _ _
      | exact spec_SetOk.mono _ _
      | exact LeO.none _
      | refine LeO.ite ?_ ?_
      | refine LeO.bind ?_ (fun _ => ?_)
set_option maxHeartbeats 8000000 in
set_option maxRecDepth 100000 in
theorem laws_FnSetsOf.calls (k : Nat) (A0 : Option Addr) (c0 : Nat) (l0 : List Int) (r : Bool) (w : World) (hr0 : Kd.C (Kd.int .u8) w A0 l0.length l0) (hc0 : l0.length ≤ c0) (h : laws_FnSetsOf.f k l0 = some r) :
    Calls Try.prog 10 #[.slice A0 l0.length c0] w fun e w' => e = .returned (.bool r) ∧ Below w.heap.size w w' := by
  have HR0 := Aside0.mk hr0
  have HC0 := Aside0.mk hc0
  clear hr0 hc0
  have HB := Aside0.mk (Below.refl w.heap.size w)
  have H : ((laws_big.f l0).bind fun t276 => (if t276 = true then (some true) else ((spec_DrawSetOf.f k l0).bind fun t277 => ((impl_SetOf.f k t277).bind fun bt278 => ((spec_SetOf.f k t277).bind fun bt280 => ((spec_DrawSetOk.f k l0).bind fun t282 => ((spec_DrawInSet.f k l0).bind fun bt283 => (laws_FnSetsOf.l0 k t277 bt278.1 bt278.2 bt280.1 bt280.2 t282 bt283.1 bt283.2 0)))))))) = some r := h
  clear h
  replace H := Option.bind_eq_some_iff.mp H
  obtain ⟨t276, A20, H⟩ := H
  replace H : (if t276 = true then (some true) else ((spec_DrawSetOf.f k l0).bind fun t277 => ((impl_SetOf.f k t277).bind fun bt278 => ((spec_SetOf.f k t277).bind fun bt280 => ((spec_DrawSetOk.f k l0).bind fun t282 => ((spec_DrawInSet.f k l0).bind fun bt283 => (laws_FnSetsOf.l0 k t277 bt278.1 bt278.2 bt280.1 bt280.2 t282 bt283.1 bt283.2 0))))))) = some r := H
  have A2 := Aside0.mk A20
  clear A20
  by_cases c3 : t276 = true
  · subst c3
    have H1 : (some true) = some r := by rw [if_pos rfl] at H; exact H
    clear H
    have H := H1
    clear H1
    obtain rfl := Option.some.inj H
    go_enter Try.func10, Try.ntmps10
    go_wp2_with (first | ((with_reducible refine gate_callee (f := 25) rfl ?_); refine goesL_ (some 15) rfl rfl Try.func25 (by kernel_rfl) rfl #[.slice A0 l0.length c0] rfl (by (try simp only [List.map_toArray, List.map_cons, List.map_nil]); first | done | rfl | (simp only [List.length_drop, List.length_take]; rfl)) ?_; (with_reducible refine (laws_big.calls _ _ l0 true _ ?side1 ?side2 A2.out).mono ?_); (case side1 => repeat (first | exact HR0.out | (with_reducible refine Kd.C_alloc ?_ _) | (with_reducible refine Kd.C_drewN ?_ _) | (with_reducible refine Kd.C_drew ?_))); (case side2 => exact HC0.out); rintro e w' ⟨rfl, ⟨nd, rfl⟩⟩; refine ⟨_, rfl, ?_⟩))
    go_ret
    exact ⟨by first | rfl | (simp [errW_none, errW_some] <;> rfl) | (simp [*, errW_none, errW_some] <;> rfl), by repeat (first | (with_reducible first | exact HB.out | apply below_alloc | apply pw_below_drewN | apply below_drew1) | exact HB.out)⟩
  · replace c3 := Bool.eq_false_iff.mpr c3
    subst c3
    have H1 : ((spec_DrawSetOf.f k l0).bind fun t277 => ((impl_SetOf.f k t277).bind fun bt278 => ((spec_SetOf.f k t277).bind fun bt280 => ((spec_DrawSetOk.f k l0).bind fun t282 => ((spec_DrawInSet.f k l0).bind fun bt283 => (laws_FnSetsOf.l0 k t277 bt278.1 bt278.2 bt280.1 bt280.2 t282 bt283.1 bt283.2 0)))))) = some r := by rw [if_neg (show ¬ (false = true) by decide)] at H; exact H
    clear H
    have H := H1
    clear H1
    replace H := Option.bind_eq_some_iff.mp H
    obtain ⟨t277, A40, H⟩ := H
    replace H : ((impl_SetOf.f k t277).bind fun bt278 => ((spec_SetOf.f k t277).bind fun bt280 => ((spec_DrawSetOk.f k l0).bind fun t282 => ((spec_DrawInSet.f k l0).bind fun bt283 => (laws_FnSetsOf.l0 k t277 bt278.1 bt278.2 bt280.1 bt280.2 t282 bt283.1 bt283.2 0))))) = some r := H
    have A4 := Aside0.mk A40
    clear A40
    replace H := Option.bind_eq_some_iff.mp H
    obtain ⟨⟨t278, t279⟩, A50, H⟩ := H
    replace H : ((spec_SetOf.f k t277).bind fun bt280 => ((spec_DrawSetOk.f k l0).bind fun t282 => ((spec_DrawInSet.f k l0).bind fun bt283 => (laws_FnSetsOf.l0 k t277 t278 t279 bt280.1 bt280.2 t282 bt283.1 bt283.2 0)))) = some r := H
    have A5 := Aside0.mk A50
    clear A50
    replace H := Option.bind_eq_some_iff.mp H
    obtain ⟨⟨t280, t281⟩, A60, H⟩ := H
    replace H : ((spec_DrawSetOk.f k l0).bind fun t282 => ((spec_DrawInSet.f k l0).bind fun bt283 => (laws_FnSetsOf.l0 k t277 t278 t279 t280 t281 t282 bt283.1 bt283.2 0))) = some r := H
    have A6 := Aside0.mk A60
    clear A60
    replace H := Option.bind_eq_some_iff.mp H
    obtain ⟨t282, A70, H⟩ := H
    replace H : ((spec_DrawInSet.f k l0).bind fun bt283 => (laws_FnSetsOf.l0 k t277 t278 t279 t280 t281 t282 bt283.1 bt283.2 0)) = some r := H
    have A7 := Aside0.mk A70
    clear A70
    replace H := Option.bind_eq_some_iff.mp H
    obtain ⟨⟨t283, t284⟩, A80, H⟩ := H
    replace H : (laws_FnSetsOf.l0 k t277 t278 t279 t280 t281 t282 t283 t284 0) = some r := H
    have A8 := Aside0.mk A80
    clear A80
    have H' := Aside0.mk H
    clear H
    go_enter Try.func10, Try.ntmps10
    go_wp2_with (first | ((with_reducible refine gate_callee (f := 25) rfl ?_); refine goesL_ (some 15) rfl rfl Try.func25 (by kernel_rfl) rfl #[.slice A0 l0.length c0] rfl (by (try simp only [List.map_toArray, List.map_cons, List.map_nil]); first | done | rfl | (simp only [List.length_drop, List.length_take]; rfl)) ?_; (with_reducible refine (laws_big.calls _ _ l0 false _ ?side1 ?side2 A2.out).mono ?_); (case side1 => repeat (first | exact HR0.out | (with_reducible refine Kd.C_alloc ?_ _) | (with_reducible refine Kd.C_drewN ?_ _) | (with_reducible refine Kd.C_drew ?_))); (case side2 => exact HC0.out); rintro e w' ⟨rfl, ⟨nd, rfl⟩⟩; refine ⟨_, rfl, ?_⟩) | ((with_reducible refine gate_callee (f := 28) rfl ?_); refine goesL_ (some 17) rfl rfl Try.func28 (by kernel_rfl) rfl #[.slice A0 l0.length c0] rfl (by (try simp only [List.map_toArray, List.map_cons, List.map_nil]); first | done | rfl | (simp only [List.length_drop, List.length_take]; rfl)) ?_; (with_reducible refine (spec_DrawSetOf.calls k _ _ l0 t277 _ ?side1 ?side2 A4.out).mono ?_); (case side1 => repeat (first | exact HR0.out | (with_reducible refine Kd.C_alloc ?_ _) | (with_reducible refine Kd.C_drewN ?_ _) | (with_reducible refine Kd.C_drew ?_))); (case side2 => exact HC0.out); rintro e w9 ⟨rfl, hb⟩; refine ⟨_, rfl, ?_⟩; have n0_ := Aside0.mk (below_step (by repeat (first | (with_reducible first | exact HB.out | apply below_alloc | apply pw_below_drewN | apply below_drew1) | exact HB.out)) hb); clear HB; have HB := n0_; clear n0_; (try clear hb); (try clear hb2); (try clear hk); (try clear hi)) | ((with_reducible refine gate_callee (f := 20) rfl ?_); refine goesL_ (some 20) rfl rfl Try.func20 (by kernel_rfl) rfl #[.string t277] rfl (by (try simp only [List.map_toArray, List.map_cons, List.map_nil]); first | done | rfl | (simp only [List.length_drop, List.length_take]; rfl)) ?_; (with_reducible refine (impl_SetOf.calls k t277 t278 t279 _ A5.out).mono ?_); rintro e w10 ⟨rfl, hb⟩; refine ⟨_, rfl, ?_⟩; have n0_ := Aside0.mk (below_step (by repeat (first | (with_reducible first | exact HB.out | apply below_alloc | apply pw_below_drewN | apply below_drew1) | exact HB.out)) hb); clear HB; have HB := n0_; clear n0_; (try clear hb); (try clear hb2); (try clear hk); (try clear hi)) | ((with_reducible refine gate_callee (f := 19) rfl ?_); refine goesL_ (some 25) rfl rfl Try.func19 (by kernel_rfl) rfl #[.string t277] rfl (by (try simp only [List.map_toArray, List.map_cons, List.map_nil]); first | done | rfl | (simp only [List.length_drop, List.length_take]; rfl)) ?_; (with_reducible refine (spec_SetOf.calls k t277 t280 t281 _ A6.out).mono ?_); rintro e w11 ⟨rfl, hb⟩; refine ⟨_, rfl, ?_⟩; have n0_ := Aside0.mk (below_step (by repeat (first | (with_reducible first | exact HB.out | apply below_alloc | apply pw_below_drewN | apply below_drew1) | exact HB.out)) hb); clear HB; have HB := n0_; clear n0_; (try clear hb); (try clear hb2); (try clear hk); (try clear hi)) | ((with_reducible refine gate_callee (f := 29) rfl ?_); refine goesL_ (some 29) rfl rfl Try.func29 (by kernel_rfl) rfl #[.slice A0 l0.length c0] rfl (by (try simp only [List.map_toArray, List.map_cons, List.map_nil]); first | done | rfl | (simp only [List.length_drop, List.length_take]; rfl)) ?_; (with_reducible refine (spec_DrawSetOk.calls k _ _ l0 t282 _ ?side1 ?side2 A7.out).mono ?_); (case side1 => repeat (first | exact (Kd.C_below HR0.out HB.out) | (with_reducible refine Kd.C_alloc ?_ _) | (with_reducible refine Kd.C_drewN ?_ _) | (with_reducible refine Kd.C_drew ?_))); (case side2 => exact HC0.out); rintro e w12 ⟨rfl, hb⟩; refine ⟨_, rfl, ?_⟩; have n0_ := Aside0.mk (below_step (by repeat (first | (with_reducible first | exact HB.out | apply below_alloc | apply pw_below_drewN | apply below_drew1) | exact HB.out)) hb); clear HB; have HB := n0_; clear n0_; (try clear hb); (try clear hb2); (try clear hk); (try clear hi)) | ((with_reducible refine gate_callee (f := 30) rfl ?_); refine goesL_ (some 32) rfl rfl Try.func30 (by kernel_rfl) rfl #[.slice A0 l0.length c0] rfl (by (try simp only [List.map_toArray, List.map_cons, List.map_nil]); first | done | rfl | (simp only [List.length_drop, List.length_take]; rfl)) ?_; (with_reducible refine (spec_DrawInSet.calls k _ _ l0 t283 t284 _ ?side1 ?side2 A8.out).mono ?_); (case side1 => repeat (first | exact (Kd.C_below HR0.out HB.out) | (with_reducible refine Kd.C_alloc ?_ _) | (with_reducible refine Kd.C_drewN ?_ _) | (with_reducible refine Kd.C_drew ?_))); (case side2 => exact HC0.out); rintro e w13 ⟨rfl, hb⟩; refine ⟨_, rfl, ?_⟩; have n0_ := Aside0.mk (below_step (by repeat (first | (with_reducible first | exact HB.out | apply below_alloc | apply pw_below_drewN | apply below_drew1) | exact HB.out)) hb); clear HB; have HB := n0_; clear n0_; (try clear hb); (try clear hb2); (try clear hk); (try clear hi)))
    go_loopg [11] k (fun kq v11 w' => ∃ (x11_1 : Int), v11 = .int .i64 x11_1 ∧ Aside0 (laws_FnSetsOf.l0 kq t277 t278 t279 t280 t281 t282 t283 t284 x11_1 = some r) ∧ Aside0 (kq ≤ k) ∧ Aside0 (Below w.heap.size w w'))
    case atStart => exact ⟨(0), (by first | rfl | (exact congrArg Value.bool (isEmpty_ne _)) | (exact congrArg Value.bool (isEmpty_ne' _)) | (exact congrArg Value.bool (isEmpty_eq _)) | (simp; done) | (simp [*]; done)), H', ⟨Nat.le_refl _⟩, ⟨by repeat (first | (with_reducible first | exact HB.out | apply below_alloc | apply pw_below_drewN | apply below_drew1) | exact HB.out)⟩⟩
    case round =>
      clear H'
      try clear c1
      try clear c2
      try clear p2
      try clear c3
      try clear c10
      obtain ⟨x11_1, rfl, HA, HK1, HB⟩ := hrel
      cases gk with
      | zero => exact absurd HA.out (by simp [laws_FnSetsOf.l0])
      | succ k1 =>
        have H := HA.out
        clear HA
        simp only [laws_FnSetsOf.l0] at H
        have HC14 := Aside0.mk H
        clear H
        go_upto_region 9 with (fail)
        go_cut [41] (fun v41 wc => ∃ (kq : Nat) (x41_13 : Bool), v41 = .bool x41_13 ∧ Aside0 (laws_FnSetsOf.j1 kq t277 t278 t279 t280 t281 t282 t283 t284 x11_1 x41_13 = some r) ∧ Aside0 (kq ≤ k1) ∧ Aside0 (Below w.heap.size w wc))
        case first =>
          have H := HC14.out
          clear HC14
          by_cases c15 : x11_1 < (t277.size : Int)
          · rw [if_pos c15] at H
            have c15b0 : decide (x11_1 < (t277.size : Int)) = true := decide_eq_true c15
            clear c15
            (first | rw [c15b0] | (simp only [i64_w, i32_w]; rw [c15b0]) | skip)
            have H' := Aside0.mk H
            clear H
            go_wp2
            go_meet
            case rel => exact ⟨_, (t279), (by first | rfl | (exact congrArg Value.bool (isEmpty_ne _)) | (exact congrArg Value.bool (isEmpty_ne' _)) | (exact congrArg Value.bool (isEmpty_eq _)) | (simp; done) | (simp [*]; done)), H', ⟨by have := HK1.out; first | omega | exact Nat.le_refl _⟩, ⟨by repeat (first | (with_reducible first | exact HB.out | apply below_alloc | apply pw_below_drewN | apply below_drew1) | exact HB.out)⟩⟩
          · rw [if_neg c15] at H
            have c15b0 : decide (x11_1 < (t277.size : Int)) = false := decide_eq_false c15
            clear c15
            (first | rw [c15b0] | (simp only [i64_w, i32_w]; rw [c15b0]) | skip)
            have H' := Aside0.mk H
            clear H
            go_wp2
            go_meet
            case rel => exact ⟨_, (false), (by first | rfl | (exact congrArg Value.bool (isEmpty_ne _)) | (exact congrArg Value.bool (isEmpty_ne' _)) | (exact congrArg Value.bool (isEmpty_eq _)) | (simp; done) | (simp [*]; done)), H', ⟨by have := HK1.out; first | omega | exact Nat.le_refl _⟩, ⟨by repeat (first | (with_reducible first | exact HB.out | apply below_alloc | apply pw_below_drewN | apply below_drew1) | exact HB.out)⟩⟩
        case rest =>
          clear HC14
          try clear c1
          try clear c2
          try clear p2
          try clear c3
          try clear c10
          try clear c15
          try clear c15b0
          try clear p2
          obtain ⟨kq, x41_13, rfl, HA, HJ13, HB⟩ := hcut
          cases kq with
          | zero => exact absurd HA.out (by simp [laws_FnSetsOf.j1])
          | succ kj13 =>
            have H := HA.out
            clear HA
            simp only [laws_FnSetsOf.j1] at H
            by_cases c16 : x41_13 = true
            · subst c16
              have H1 : (if 0 ≤ x11_1 then (if x11_1 < (t277.size : Int) then ((impl_InSet.f kj13 t278 (bt t277 x11_1)).bind fun t285 => (if t285 = true then (laws_FnSetsOf.l0 kj13 t277 t278 t279 t280 t281 t282 t283 t284 (wrap64 (x11_1 + 1))) else (some false))) else (none)) else (none)) = some r := by rw [if_pos rfl] at H; exact H
              clear H
              have H := H1
              clear H1
              by_cases c17 : 0 ≤ x11_1
              · rw [if_pos c17] at H
                have c17b0 : decide (0 ≤ x11_1) = true := decide_eq_true c17
                clear c17
                by_cases c18 : x11_1 < (t277.size : Int)
                · rw [if_pos c18] at H
                  have c18b0 : decide (x11_1 < (t277.size : Int)) = true := decide_eq_true c18
                  clear c18
                  replace H := Option.bind_eq_some_iff.mp H
                  obtain ⟨t285, A200, H⟩ := H
                  replace H : (if t285 = true then (laws_FnSetsOf.l0 kj13 t277 t278 t279 t280 t281 t282 t283 t284 (wrap64 (x11_1 + 1))) else (some false)) = some r := H
                  have A20 := Aside0.mk A200
                  clear A200
                  by_cases c21 : t285 = true
                  · subst c21
                    have H1 : (laws_FnSetsOf.l0 kj13 t277 t278 t279 t280 t281 t282 t283 t284 (wrap64 (x11_1 + 1))) = some r := by rw [if_pos rfl] at H; exact H
                    clear H
                    have H := H1
                    clear H1
                    have H' := Aside0.mk H
                    clear H
                    have p19 : 0 ≤ (x11_1 : Int) := of_decide_eq_true (by first | (with_reducible assumption) | assumption)
                    have q19 : x11_1 < (t277.size : Int) := of_decide_eq_true (by first | (with_reducible assumption) | assumption)
                    have hx19 := bt_at t277 x11_1
                    replace p19 := eq_true p19
                    replace q19 := eq_true q19
                    go_wp2_with (first | ((with_reducible refine gate_callee (f := 16) rfl ?_); refine goesL_ (some 48) rfl rfl Try.func16 (by kernel_rfl) rfl #[.string t278, .int .u8 (bt t277 x11_1)] rfl (by (try simp only [List.map_toArray, List.map_cons, List.map_nil]); first | done | rfl | (simp only [List.length_drop, List.length_take]; rfl)) ?_; (with_reducible refine (impl_InSet.calls kj13 t278 (bt t277 x11_1) true _ A20.out).mono ?_); rintro e w22 ⟨rfl, hb⟩; refine ⟨_, rfl, ?_⟩; have n0_ := Aside0.mk (below_step (by repeat (first | (with_reducible first | exact HB.out | apply below_alloc | apply pw_below_drewN | apply below_drew1) | exact HB.out)) hb); clear HB; have HB := n0_; clear n0_; (try clear hb); (try clear hb2); (try clear hk); (try clear hi)))
                    go_roundg kj13
                    case measure => have := HK1.out; have := HJ13.out; omega
                    case rel => exact ⟨(wrap64 (x11_1 + 1)), (by first | rfl | (exact congrArg Value.bool (isEmpty_ne _)) | (exact congrArg Value.bool (isEmpty_ne' _)) | (exact congrArg Value.bool (isEmpty_eq _)) | (simp; done) | (simp [*]; done)), H', ⟨by have := HK1.out; have := HJ13.out; omega⟩, ⟨by repeat (first | (with_reducible first | exact HB.out | apply below_alloc | apply pw_below_drewN | apply below_drew1) | exact HB.out)⟩⟩
                  · replace c21 := Bool.eq_false_iff.mpr c21
                    subst c21
                    have H1 : (some false) = some r := by rw [if_neg (show ¬ (false = true) by decide)] at H; exact H
                    clear H
                    have H := H1
                    clear H1
                    obtain rfl := Option.some.inj H
                    have p19 : 0 ≤ (x11_1 : Int) := of_decide_eq_true (by first | (with_reducible assumption) | assumption)
                    have q19 : x11_1 < (t277.size : Int) := of_decide_eq_true (by first | (with_reducible assumption) | assumption)
                    have hx19 := bt_at t277 x11_1
                    replace p19 := eq_true p19
                    replace q19 := eq_true q19
                    go_wp2_with (first | ((with_reducible refine gate_callee (f := 16) rfl ?_); refine goesL_ (some 48) rfl rfl Try.func16 (by kernel_rfl) rfl #[.string t278, .int .u8 (bt t277 x11_1)] rfl (by (try simp only [List.map_toArray, List.map_cons, List.map_nil]); first | done | rfl | (simp only [List.length_drop, List.length_take]; rfl)) ?_; (with_reducible refine (impl_InSet.calls kj13 t278 (bt t277 x11_1) false _ A20.out).mono ?_); rintro e w23 ⟨rfl, hb⟩; refine ⟨_, rfl, ?_⟩; have n0_ := Aside0.mk (below_step (by repeat (first | (with_reducible first | exact HB.out | apply below_alloc | apply pw_below_drewN | apply below_drew1) | exact HB.out)) hb); clear HB; have HB := n0_; clear n0_; (try clear hb); (try clear hb2); (try clear hk); (try clear hi)))
                    go_ret
                    exact ⟨by first | rfl | (simp [errW_none, errW_some] <;> rfl) | (simp [*, errW_none, errW_some] <;> rfl), by repeat (first | (with_reducible first | exact HB.out | apply below_alloc | apply pw_below_drewN | apply below_drew1) | exact HB.out)⟩
                · rw [if_neg c18] at H
                  exact absurd H (by simp)
              · rw [if_neg c17] at H
                exact absurd H (by simp)
            · replace c16 := Bool.eq_false_iff.mpr c16
              subst c16
              have H1 : ((impl_SetOf.f kj13 (⟨#[99, 98, 97, 98, 97]⟩ : ByteArray)).bind fun bt286 => (if (t279 == t281) = true then (if t278.toList = t280.toList then ((impl_SetOk.f kj13 t282).bind fun t288 => ((spec_SetOk.f kj13 t282).bind fun t289 => (if (t288 == t289) = true then ((impl_InSet.f kj13 t283 t284).bind fun t290 => ((spec_InSet.f kj13 t283 t284).bind fun t291 => (if (t290 == t291) = true then (if bt286.1.toList = ([97, 45, 99] : List UInt8) then ((impl_SetBytes.f kj13 t282).bind fun t292 => ((spec_SetBytes.f kj13 t282).bind fun t293 => (some (t292.toList == t293.toList)))) else (some false)) else (some false)))) else (some false)))) else (some false)) else (some false))) = some r := by rw [if_neg (show ¬ (false = true) by decide)] at H; exact H
              clear H
              have H := H1
              clear H1
              replace H := Option.bind_eq_some_iff.mp H
              obtain ⟨⟨t286, t287⟩, A240, H⟩ := H
              replace H : (if (t279 == t281) = true then (if t278.toList = t280.toList then ((impl_SetOk.f kj13 t282).bind fun t288 => ((spec_SetOk.f kj13 t282).bind fun t289 => (if (t288 == t289) = true then ((impl_InSet.f kj13 t283 t284).bind fun t290 => ((spec_InSet.f kj13 t283 t284).bind fun t291 => (if (t290 == t291) = true then (if t286.toList = ([97, 45, 99] : List UInt8) then ((impl_SetBytes.f kj13 t282).bind fun t292 => ((spec_SetBytes.f kj13 t282).bind fun t293 => (some (t292.toList == t293.toList)))) else (some false)) else (some false)))) else (some false)))) else (some false)) else (some false)) = some r := H
              have A24 := Aside0.mk A240
              clear A240
              by_cases c25 : (t279 == t281) = true
              · rw [if_pos c25] at H
                have c25b0 : (t279 == t281) = true := c25
                (try (have c25b1 : decide (t279 = t281) = true := by simpa using c25))
                (try (have c25b2 : (t279 == t281) = true := by simpa using c25))
                clear c25
                by_cases c26 : t278.toList = t280.toList
                · rw [if_pos c26] at H
                  have c26b0 : (t278.toList == t280.toList) = true := beq_iff_eq.mpr c26
                  have c26b1 : (t278.toList != t280.toList) = false := bne_eq_false_iff_eq.mpr c26
                  clear c26
                  replace H := Option.bind_eq_some_iff.mp H
                  obtain ⟨t288, A270, H⟩ := H
                  replace H : ((spec_SetOk.f kj13 t282).bind fun t289 => (if (t288 == t289) = true then ((impl_InSet.f kj13 t283 t284).bind fun t290 => ((spec_InSet.f kj13 t283 t284).bind fun t291 => (if (t290 == t291) = true then (if t286.toList = ([97, 45, 99] : List UInt8) then ((impl_SetBytes.f kj13 t282).bind fun t292 => ((spec_SetBytes.f kj13 t282).bind fun t293 => (some (t292.toList == t293.toList)))) else (some false)) else (some false)))) else (some false))) = some r := H
                  have A27 := Aside0.mk A270
                  clear A270
                  replace H := Option.bind_eq_some_iff.mp H
                  obtain ⟨t289, A280, H⟩ := H
                  replace H : (if (t288 == t289) = true then ((impl_InSet.f kj13 t283 t284).bind fun t290 => ((spec_InSet.f kj13 t283 t284).bind fun t291 => (if (t290 == t291) = true then (if t286.toList = ([97, 45, 99] : List UInt8) then ((impl_SetBytes.f kj13 t282).bind fun t292 => ((spec_SetBytes.f kj13 t282).bind fun t293 => (some (t292.toList == t293.toList)))) else (some false)) else (some false)))) else (some false)) = some r := H
                  have A28 := Aside0.mk A280
                  clear A280
                  by_cases c29 : (t288 == t289) = true
                  · rw [if_pos c29] at H
                    have c29b0 : (t288 == t289) = true := c29
                    (try (have c29b1 : decide (t288 = t289) = true := by simpa using c29))
                    (try (have c29b2 : (t288 == t289) = true := by simpa using c29))
                    clear c29
                    replace H := Option.bind_eq_some_iff.mp H
                    obtain ⟨t290, A300, H⟩ := H
                    replace H : ((spec_InSet.f kj13 t283 t284).bind fun t291 => (if (t290 == t291) = true then (if t286.toList = ([97, 45, 99] : List UInt8) then ((impl_SetBytes.f kj13 t282).bind fun t292 => ((spec_SetBytes.f kj13 t282).bind fun t293 => (some (t292.toList == t293.toList)))) else (some false)) else (some false))) = some r := H
                    have A30 := Aside0.mk A300
                    clear A300
                    replace H := Option.bind_eq_some_iff.mp H
                    obtain ⟨t291, A310, H⟩ := H
                    replace H : (if (t290 == t291) = true then (if t286.toList = ([97, 45, 99] : List UInt8) then ((impl_SetBytes.f kj13 t282).bind fun t292 => ((spec_SetBytes.f kj13 t282).bind fun t293 => (some (t292.toList == t293.toList)))) else (some false)) else (some false)) = some r := H
                    have A31 := Aside0.mk A310
                    clear A310
                    by_cases c32 : (t290 == t291) = true
                    · rw [if_pos c32] at H
                      have c32b0 : (t290 == t291) = true := c32
                      (try (have c32b1 : decide (t290 = t291) = true := by simpa using c32))
                      (try (have c32b2 : (t290 == t291) = true := by simpa using c32))
                      clear c32
                      by_cases c33 : t286.toList = ([97, 45, 99] : List UInt8)
                      · rw [if_pos c33] at H
                        have c33b0 : (t286.toList == ([97, 45, 99] : List UInt8)) = true := beq_iff_eq.mpr c33
                        have c33b1 : (t286.toList != ([97, 45, 99] : List UInt8)) = false := bne_eq_false_iff_eq.mpr c33
                        clear c33
                        replace H := Option.bind_eq_some_iff.mp H
                        obtain ⟨t292, A340, H⟩ := H
                        replace H : ((spec_SetBytes.f kj13 t282).bind fun t293 => (some (t292.toList == t293.toList))) = some r := H
                        have A34 := Aside0.mk A340
                        clear A340
                        replace H := Option.bind_eq_some_iff.mp H
                        obtain ⟨t293, A350, H⟩ := H
                        replace H : (some (t292.toList == t293.toList)) = some r := H
                        have A35 := Aside0.mk A350
                        clear A350
                        obtain rfl := Option.some.inj H
                        go_wp2_with (first | ((with_reducible refine gate_callee (f := 20) rfl ?_); refine goesL_ (some 51) rfl rfl Try.func20 (by kernel_rfl) rfl #[.string (⟨#[99, 98, 97, 98, 97]⟩ : ByteArray)] rfl (by (try simp only [List.map_toArray, List.map_cons, List.map_nil]); first | done | rfl | (simp only [List.length_drop, List.length_take]; rfl)) ?_; (with_reducible refine (impl_SetOf.calls kj13 (⟨#[99, 98, 97, 98, 97]⟩ : ByteArray) t286 t287 _ A24.out).mono ?_); rintro e w36 ⟨rfl, hb⟩; refine ⟨_, rfl, ?_⟩; have n0_ := Aside0.mk (below_step (by repeat (first | (with_reducible first | exact HB.out | apply below_alloc | apply pw_below_drewN | apply below_drew1) | exact HB.out)) hb); clear HB; have HB := n0_; clear n0_; (try clear hb); (try clear hb2); (try clear hk); (try clear hi)) | (go_at_call 14; (with_reducible refine (impl_SetOk.calls kj13 t282 t288 _ A27.out).mono ?_); rintro e w37 ⟨rfl, hb⟩; have n0_ := Aside0.mk (below_step (by repeat (first | (with_reducible first | exact HB.out | apply below_alloc | apply pw_below_drewN | apply below_drew1) | exact HB.out)) hb); clear HB; have HB := n0_; clear n0_; (try clear hb); (try clear hb2); (try clear hk); (try clear hi)) | (go_at_call 13; (with_reducible refine (spec_SetOk.calls kj13 t282 t289 _ A28.out).mono ?_); rintro e w38 ⟨rfl, hb⟩; have n0_ := Aside0.mk (below_step (by repeat (first | (with_reducible first | exact HB.out | apply below_alloc | apply pw_below_drewN | apply below_drew1) | exact HB.out)) hb); clear HB; have HB := n0_; clear n0_; (try clear hb); (try clear hb2); (try clear hk); (try clear hi)) | (go_at_call 16; (with_reducible refine (impl_InSet.calls kj13 t283 t284 t290 _ A30.out).mono ?_); rintro e w39 ⟨rfl, hb⟩; have n0_ := Aside0.mk (below_step (by repeat (first | (with_reducible first | exact HB.out | apply below_alloc | apply pw_below_drewN | apply below_drew1) | exact HB.out)) hb); clear HB; have HB := n0_; clear n0_; (try clear hb); (try clear hb2); (try clear hk); (try clear hi)) | (go_at_call 15; (with_reducible refine (spec_InSet.calls kj13 t283 t284 t291 _ A31.out).mono ?_); rintro e w40 ⟨rfl, hb⟩; have n0_ := Aside0.mk (below_step (by repeat (first | (with_reducible first | exact HB.out | apply below_alloc | apply pw_below_drewN | apply below_drew1) | exact HB.out)) hb); clear HB; have HB := n0_; clear n0_; (try clear hb); (try clear hb2); (try clear hk); (try clear hi)) | (go_at_call 18; (with_reducible refine (impl_SetBytes.calls kj13 t282 t292 _ A34.out).mono ?_); rintro e w41 ⟨rfl, hb⟩; have n0_ := Aside0.mk (below_step (by repeat (first | (with_reducible first | exact HB.out | apply below_alloc | apply pw_below_drewN | apply below_drew1) | exact HB.out)) hb); clear HB; have HB := n0_; clear n0_; (try clear hb); (try clear hb2); (try clear hk); (try clear hi)) | (go_at_call 17; (with_reducible refine (spec_SetBytes.calls kj13 t282 t293 _ A35.out).mono ?_); rintro e w42 ⟨rfl, hb⟩; have n0_ := Aside0.mk (below_step (by repeat (first | (with_reducible first | exact HB.out | apply below_alloc | apply pw_below_drewN | apply below_drew1) | exact HB.out)) hb); clear HB; have HB := n0_; clear n0_; (try clear hb); (try clear hb2); (try clear hk); (try clear hi)))
                        go_ret
                        exact ⟨by first | rfl | (simp [errW_none, errW_some] <;> rfl) | (simp [*, errW_none, errW_some] <;> rfl), by repeat (first | (with_reducible first | exact HB.out | apply below_alloc | apply pw_below_drewN | apply below_drew1) | exact HB.out)⟩
                      · rw [if_neg c33] at H
                        have c33b0 : (t286.toList == ([97, 45, 99] : List UInt8)) = false := beq_eq_false_iff_ne.mpr c33
                        have c33b1 : (t286.toList != ([97, 45, 99] : List UInt8)) = true := bne_iff_ne.mpr c33
                        obtain rfl := Option.some.inj H
                        go_wp2_with (first | ((with_reducible refine gate_callee (f := 20) rfl ?_); refine goesL_ (some 51) rfl rfl Try.func20 (by kernel_rfl) rfl #[.string (⟨#[99, 98, 97, 98, 97]⟩ : ByteArray)] rfl (by (try simp only [List.map_toArray, List.map_cons, List.map_nil]); first | done | rfl | (simp only [List.length_drop, List.length_take]; rfl)) ?_; (with_reducible refine (impl_SetOf.calls kj13 (⟨#[99, 98, 97, 98, 97]⟩ : ByteArray) t286 t287 _ A24.out).mono ?_); rintro e w43 ⟨rfl, hb⟩; refine ⟨_, rfl, ?_⟩; have n0_ := Aside0.mk (below_step (by repeat (first | (with_reducible first | exact HB.out | apply below_alloc | apply pw_below_drewN | apply below_drew1) | exact HB.out)) hb); clear HB; have HB := n0_; clear n0_; (try clear hb); (try clear hb2); (try clear hk); (try clear hi)) | (go_at_call 14; (with_reducible refine (impl_SetOk.calls kj13 t282 t288 _ A27.out).mono ?_); rintro e w44 ⟨rfl, hb⟩; have n0_ := Aside0.mk (below_step (by repeat (first | (with_reducible first | exact HB.out | apply below_alloc | apply pw_below_drewN | apply below_drew1) | exact HB.out)) hb); clear HB; have HB := n0_; clear n0_; (try clear hb); (try clear hb2); (try clear hk); (try clear hi)) | (go_at_call 13; (with_reducible refine (spec_SetOk.calls kj13 t282 t289 _ A28.out).mono ?_); rintro e w45 ⟨rfl, hb⟩; have n0_ := Aside0.mk (below_step (by repeat (first | (with_reducible first | exact HB.out | apply below_alloc | apply pw_below_drewN | apply below_drew1) | exact HB.out)) hb); clear HB; have HB := n0_; clear n0_; (try clear hb); (try clear hb2); (try clear hk); (try clear hi)) | (go_at_call 16; (with_reducible refine (impl_InSet.calls kj13 t283 t284 t290 _ A30.out).mono ?_); rintro e w46 ⟨rfl, hb⟩; have n0_ := Aside0.mk (below_step (by repeat (first | (with_reducible first | exact HB.out | apply below_alloc | apply pw_below_drewN | apply below_drew1) | exact HB.out)) hb); clear HB; have HB := n0_; clear n0_; (try clear hb); (try clear hb2); (try clear hk); (try clear hi)) | (go_at_call 15; (with_reducible refine (spec_InSet.calls kj13 t283 t284 t291 _ A31.out).mono ?_); rintro e w47 ⟨rfl, hb⟩; have n0_ := Aside0.mk (below_step (by repeat (first | (with_reducible first | exact HB.out | apply below_alloc | apply pw_below_drewN | apply below_drew1) | exact HB.out)) hb); clear HB; have HB := n0_; clear n0_; (try clear hb); (try clear hb2); (try clear hk); (try clear hi)))
                        go_ret
                        exact ⟨by first | rfl | (simp [errW_none, errW_some] <;> rfl) | (simp [*, errW_none, errW_some] <;> rfl), by repeat (first | (with_reducible first | exact HB.out | apply below_alloc | apply pw_below_drewN | apply below_drew1) | exact HB.out)⟩
                    · rw [if_neg c32] at H
                      have c32b0 : (t290 == t291) = false := by simpa using c32
                      (try (have c32b1 : decide (t290 = t291) = false := by simpa using c32))
                      (try (have c32b2 : (t290 == t291) = false := by simpa using c32))
                      (try (have c32b3 : ¬ (t290 = t291) := by simpa using c32))
                      clear c32
                      obtain rfl := Option.some.inj H
                      go_wp2_with (first | ((with_reducible refine gate_callee (f := 20) rfl ?_); refine goesL_ (some 51) rfl rfl Try.func20 (by kernel_rfl) rfl #[.string (⟨#[99, 98, 97, 98, 97]⟩ : ByteArray)] rfl (by (try simp only [List.map_toArray, List.map_cons, List.map_nil]); first | done | rfl | (simp only [List.length_drop, List.length_take]; rfl)) ?_; (with_reducible refine (impl_SetOf.calls kj13 (⟨#[99, 98, 97, 98, 97]⟩ : ByteArray) t286 t287 _ A24.out).mono ?_); rintro e w48 ⟨rfl, hb⟩; refine ⟨_, rfl, ?_⟩; have n0_ := Aside0.mk (below_step (by repeat (first | (with_reducible first | exact HB.out | apply below_alloc | apply pw_below_drewN | apply below_drew1) | exact HB.out)) hb); clear HB; have HB := n0_; clear n0_; (try clear hb); (try clear hb2); (try clear hk); (try clear hi)) | (go_at_call 14; (with_reducible refine (impl_SetOk.calls kj13 t282 t288 _ A27.out).mono ?_); rintro e w49 ⟨rfl, hb⟩; have n0_ := Aside0.mk (below_step (by repeat (first | (with_reducible first | exact HB.out | apply below_alloc | apply pw_below_drewN | apply below_drew1) | exact HB.out)) hb); clear HB; have HB := n0_; clear n0_; (try clear hb); (try clear hb2); (try clear hk); (try clear hi)) | (go_at_call 13; (with_reducible refine (spec_SetOk.calls kj13 t282 t289 _ A28.out).mono ?_); rintro e w50 ⟨rfl, hb⟩; have n0_ := Aside0.mk (below_step (by repeat (first | (with_reducible first | exact HB.out | apply below_alloc | apply pw_below_drewN | apply below_drew1) | exact HB.out)) hb); clear HB; have HB := n0_; clear n0_; (try clear hb); (try clear hb2); (try clear hk); (try clear hi)) | (go_at_call 16; (with_reducible refine (impl_InSet.calls kj13 t283 t284 t290 _ A30.out).mono ?_); rintro e w51 ⟨rfl, hb⟩; have n0_ := Aside0.mk (below_step (by repeat (first | (with_reducible first | exact HB.out | apply below_alloc | apply pw_below_drewN | apply below_drew1) | exact HB.out)) hb); clear HB; have HB := n0_; clear n0_; (try clear hb); (try clear hb2); (try clear hk); (try clear hi)) | (go_at_call 15; (with_reducible refine (spec_InSet.calls kj13 t283 t284 t291 _ A31.out).mono ?_); rintro e w52 ⟨rfl, hb⟩; have n0_ := Aside0.mk (below_step (by repeat (first | (with_reducible first | exact HB.out | apply below_alloc | apply pw_below_drewN | apply below_drew1) | exact HB.out)) hb); clear HB; have HB := n0_; clear n0_; (try clear hb); (try clear hb2); (try clear hk); (try clear hi)))
                      go_ret
                      exact ⟨by first | rfl | (simp [errW_none, errW_some] <;> rfl) | (simp [*, errW_none, errW_some] <;> rfl), by repeat (first | (with_reducible first | exact HB.out | apply below_alloc | apply pw_below_drewN | apply below_drew1) | exact HB.out)⟩
                  · rw [if_neg c29] at H
                    have c29b0 : (t288 == t289) = false := by simpa using c29
                    (try (have c29b1 : decide (t288 = t289) = false := by simpa using c29))
                    (try (have c29b2 : (t288 == t289) = false := by simpa using c29))
                    (try (have c29b3 : ¬ (t288 = t289) := by simpa using c29))
                    clear c29
                    obtain rfl := Option.some.inj H
                    go_wp2_with (first | ((with_reducible refine gate_callee (f := 20) rfl ?_); refine goesL_ (some 51) rfl rfl Try.func20 (by kernel_rfl) rfl #[.string (⟨#[99, 98, 97, 98, 97]⟩ : ByteArray)] rfl (by (try simp only [List.map_toArray, List.map_cons, List.map_nil]); first | done | rfl | (simp only [List.length_drop, List.length_take]; rfl)) ?_; (with_reducible refine (impl_SetOf.calls kj13 (⟨#[99, 98, 97, 98, 97]⟩ : ByteArray) t286 t287 _ A24.out).mono ?_); rintro e w53 ⟨rfl, hb⟩; refine ⟨_, rfl, ?_⟩; have n0_ := Aside0.mk (below_step (by repeat (first | (with_reducible first | exact HB.out | apply below_alloc | apply pw_below_drewN | apply below_drew1) | exact HB.out)) hb); clear HB; have HB := n0_; clear n0_; (try clear hb); (try clear hb2); (try clear hk); (try clear hi)) | (go_at_call 14; (with_reducible refine (impl_SetOk.calls kj13 t282 t288 _ A27.out).mono ?_); rintro e w54 ⟨rfl, hb⟩; have n0_ := Aside0.mk (below_step (by repeat (first | (with_reducible first | exact HB.out | apply below_alloc | apply pw_below_drewN | apply below_drew1) | exact HB.out)) hb); clear HB; have HB := n0_; clear n0_; (try clear hb); (try clear hb2); (try clear hk); (try clear hi)) | (go_at_call 13; (with_reducible refine (spec_SetOk.calls kj13 t282 t289 _ A28.out).mono ?_); rintro e w55 ⟨rfl, hb⟩; have n0_ := Aside0.mk (below_step (by repeat (first | (with_reducible first | exact HB.out | apply below_alloc | apply pw_below_drewN | apply below_drew1) | exact HB.out)) hb); clear HB; have HB := n0_; clear n0_; (try clear hb); (try clear hb2); (try clear hk); (try clear hi)))
                    go_ret
                    exact ⟨by first | rfl | (simp [errW_none, errW_some] <;> rfl) | (simp [*, errW_none, errW_some] <;> rfl), by repeat (first | (with_reducible first | exact HB.out | apply below_alloc | apply pw_below_drewN | apply below_drew1) | exact HB.out)⟩
                · rw [if_neg c26] at H
                  have c26b0 : (t278.toList == t280.toList) = false := beq_eq_false_iff_ne.mpr c26
                  have c26b1 : (t278.toList != t280.toList) = true := bne_iff_ne.mpr c26
                  obtain rfl := Option.some.inj H
                  go_wp2_with (first | ((with_reducible refine gate_callee (f := 20) rfl ?_); refine goesL_ (some 51) rfl rfl Try.func20 (by kernel_rfl) rfl #[.string (⟨#[99, 98, 97, 98, 97]⟩ : ByteArray)] rfl (by (try simp only [List.map_toArray, List.map_cons, List.map_nil]); first | done | rfl | (simp only [List.length_drop, List.length_take]; rfl)) ?_; (with_reducible refine (impl_SetOf.calls kj13 (⟨#[99, 98, 97, 98, 97]⟩ : ByteArray) t286 t287 _ A24.out).mono ?_); rintro e w56 ⟨rfl, hb⟩; refine ⟨_, rfl, ?_⟩; have n0_ := Aside0.mk (below_step (by repeat (first | (with_reducible first | exact HB.out | apply below_alloc | apply pw_below_drewN | apply below_drew1) | exact HB.out)) hb); clear HB; have HB := n0_; clear n0_; (try clear hb); (try clear hb2); (try clear hk); (try clear hi)))
                  go_ret
                  exact ⟨by first | rfl | (simp [errW_none, errW_some] <;> rfl) | (simp [*, errW_none, errW_some] <;> rfl), by repeat (first | (with_reducible first | exact HB.out | apply below_alloc | apply pw_below_drewN | apply below_drew1) | exact HB.out)⟩
              · rw [if_neg c25] at H
                have c25b0 : (t279 == t281) = false := by simpa using c25
                (try (have c25b1 : decide (t279 = t281) = false := by simpa using c25))
                (try (have c25b2 : (t279 == t281) = false := by simpa using c25))
                (try (have c25b3 : ¬ (t279 = t281) := by simpa using c25))
                clear c25
                obtain rfl := Option.some.inj H
                go_wp2_with (first | ((with_reducible refine gate_callee (f := 20) rfl ?_); refine goesL_ (some 51) rfl rfl Try.func20 (by kernel_rfl) rfl #[.string (⟨#[99, 98, 97, 98, 97]⟩ : ByteArray)] rfl (by (try simp only [List.map_toArray, List.map_cons, List.map_nil]); first | done | rfl | (simp only [List.length_drop, List.length_take]; rfl)) ?_; (with_reducible refine (impl_SetOf.calls kj13 (⟨#[99, 98, 97, 98, 97]⟩ : ByteArray) t286 t287 _ A24.out).mono ?_); rintro e w57 ⟨rfl, hb⟩; refine ⟨_, rfl, ?_⟩; have n0_ := Aside0.mk (below_step (by repeat (first | (with_reducible first | exact HB.out | apply below_alloc | apply pw_below_drewN | apply below_drew1) | exact HB.out)) hb); clear HB; have HB := n0_; clear n0_; (try clear hb); (try clear hb2); (try clear hk); (try clear hi)))
                go_ret
                exact ⟨by first | rfl | (simp [errW_none, errW_some] <;> rfl) | (simp [*, errW_none, errW_some] <;> rfl), by repeat (first | (with_reducible first | exact HB.out | apply below_alloc | apply pw_below_drewN | apply below_drew1) | exact HB.out)⟩

/-- THE ONE PURE STATEMENT of laws_FnSetsOf: yours. -/
def laws_FnSetsOf.Pure : Prop := ∀ (l0 : List Int), l0.length ≤ maxLen → l0.length * 1 ≤ 140737488351232 → (∀ x ∈ l0, (Lit.int .u8 x).wf = true) → ∃ k, laws_FnSetsOf.f k l0 = some true
theorem laws_FnSetsOf.walk (P : laws_FnSetsOf.Pure) (a0 : Option Addr) (len0 cap0 : Nat) (z0 : List Int) (w : World) (w0 : (a0 = none ∧ len0 = 0 ∧ cap0 = 0 ∧ z0 = []) ∨ ∃ x, a0 = some x ∧ len0 ≤ cap0 ∧ cap0 ≤ maxLen ∧ z0.length = cap0 ∧ (∀ i, i < z0.length → w.cell? (x.add i) = some (.int .u8 (z0.getD i 0))) ∧ ∀ n ∈ z0, (Lit.int .u8 n).wf = true) (y0 : len0 * 1 ≤ 140737488351232) :
    Calls Try.prog 10 #[.slice a0 len0 cap0] w fun e w' => e = .returned (.bool true) ∧ Below w.heap.size w w' := by
  obtain ⟨l0, rfl, hr0, hm0, hw0, hc0⟩ := ReadsInt.ofRowC w0
  obtain ⟨k, h⟩ := P l0 hm0 y0 hw0
  refine (laws_FnSetsOf.calls k _ _ l0 true w (Kd.C_of_reads (d := (0 : Int)) (h1 := fun _ => rfl) hr0) hc0 h).mono ?_
  rintro e w' ⟨rfl, hd⟩
  exact ⟨rfl, hd⟩

end Go.Proofs.Ytbkncnlehlldeaa.MFnSetsOf
