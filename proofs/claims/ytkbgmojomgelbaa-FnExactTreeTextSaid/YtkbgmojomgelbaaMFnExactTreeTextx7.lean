import Derived.Test.YtkbgmojomgelbaaMFnExactTreeTextx0
namespace Go.Proofs.Ytkbgmojomgelbaa.MFnExactTreeText
open Go.RowKit Go.Proofs.YtkbgmojomgelbaaW.PrintWords Go.Proofs.YtkbgmojomgelbaaW.PrintLast Go.Proofs.YtkbgmojomgelbaaW.PrintMore
attribute [local go_sem] max2_int min2_int max_two min_two max_three min_three max_four min_four
set_option linter.unusedVariables false
set_option linter.unusedSimpArgs false

def laws_eqStringS.l0 : Nat → List ByteArray → List ByteArray → Int → Option (Bool)
 |0,_,_,_ => none
 |k + 1,x0,x1,x5 => if x5 < (x0.length : Int) then (if 0 ≤ x5 then (if x5 < (x1.length : Int) then (if (rdOf ByteArray.empty x0 x5).toList = (rdOf ByteArray.empty x1 x5).toList then (laws_eqStringS.l0 k x0 x1 (wrap64 (x5 + 1))) else (some false)) else (none)) else (none)) else (some true)
def laws_eqStringS.f (k : Nat) (l0 : List ByteArray) (l1 : List ByteArray) : Option (Bool):=if (l0.length : Int) = (l1.length : Int) then (laws_eqStringS.l0 k l0 l1 0) else (some false)
theorem laws_eqStringS.mono_l : ∀ k,(∀ y0 y1 y2,LeO (laws_eqStringS.l0 k y0 y1 y2) (laws_eqStringS.l0 (k + 1) y0 y1 y2))
 |0 => fun _ _ _ r h => by simp [laws_eqStringS.l0] at h
 |k + 1 => by
  have ih0:=laws_eqStringS.mono_l k
  ·intro y0 y1 y2
   unfold laws_eqStringS.l0
   repeat' first
   |(with_reducible exact ih0 _ _ _)
   |(with_reducible exact LeO.refl _)
   |(with_reducible exact LeO.none _)
   |(with_reducible refine LeO.ite ?_ ?_)
   |(with_reducible refine LeO.bind ?_ (fun _ => ?_))
theorem laws_eqStringS.mono : ∀ a0 a1 k,LeO (laws_eqStringS.f k a0 a1) (laws_eqStringS.f (k + 1) a0 a1):=by
 intro a0 a1 k
 have ih0:=laws_eqStringS.mono_l k
 unfold laws_eqStringS.f
 repeat' first
   |(with_reducible exact ih0 _ _ _)
   |(with_reducible exact LeO.refl _)
   |(with_reducible exact LeO.none _)
   |(with_reducible refine LeO.ite ?_ ?_)
   |(with_reducible refine LeO.bind ?_ (fun _ => ?_))
set_option maxHeartbeats 8000000 in
set_option maxRecDepth 100000 in
theorem laws_eqStringS.calls (k : Nat) (A0 : Option Addr) (c0 : Nat) (l0 : List ByteArray) (A1 : Option Addr) (c1 : Nat) (l1 : List ByteArray) (r : Bool) (w : World) (hr0 : Kd.C Kd.string w A0 l0.length l0) (hc0 : l0.length ≤ c0) (hr1 : Kd.C Kd.string w A1 l1.length l1) (hc1 : l1.length ≤ c1) (h : laws_eqStringS.f k l0 l1 = some r) :
  Calls Try.prog 40 #[.slice A0 l0.length c0,.slice A1 l1.length c1] w fun e w' => e = .returned (.bool r) ∧ Drawn0 w w':=by
 have HR0:=zm_ hr0
 have HC0:=zm_ hc0
 clear hr0 hc0
 have HR1:=zm_ hr1
 have HC1:=zm_ hc1
 clear hr1 hc1
 have H : (if (l0.length : Int) = (l1.length : Int) then (laws_eqStringS.l0 k l0 l1 0) else (some false)) = some r:=h
 clear h
 by_cases c3 : (l0.length : Int) = (l1.length : Int)
 ·rw [if_pos c3] at H
  have c3b0 : ((l0.length : Int) == (l1.length : Int)) = true:=beq_iff_eq.mpr c3
  have c3b1 : ((l0.length : Int) != (l1.length : Int)) = false:=bne_eq_false_iff_eq.mpr c3
  have c3b2 : (l0.length == l1.length) = true:=by first|simpa using c3|(simp at c3 ⊢;omega)
  clear c3
  have H':=zm_ H
  clear H
  go_enter Try.func40,Try.ntmps40
  go_wp2
  repeat (go_quiet (fail);try go_wp2)
  go_loopg [5] k (fun kq v5 w' => ∃ (x5_1 : Int),v5 = .int .i64 x5_1 ∧ Aside0 (laws_eqStringS.l0 kq l0 l1 x5_1 = some r) ∧ Aside0 (kq ≤ k) ∧ Drawn0 w w')
  case atStart => exact ⟨(0),zV_,H',⟨Nat.le_refl _⟩,by repeat (first|exact Drawn0.refl _|apply Drawn0.step)⟩
  case round =>
   clear H'
   try clear c1
   try clear p2
   try clear c3
   try clear c3b0
   try clear c3b1
   try clear c3b2
   obtain ⟨x5_1,rfl,HA,HK1,⟨m1,rfl⟩⟩:=hrel
   cases gk with
   |zero => exact absurd HA.out (by simp [laws_eqStringS.l0])
   |succ k1 =>
    have H:=HA.out
    clear HA
    simp only [laws_eqStringS.l0] at H
    by_cases c4 : x5_1 < (l0.length : Int)
    ·rw [if_pos c4] at H
     have c4b0 : decide (x5_1 < (l0.length : Int)) = true:=decide_eq_true c4
     clear c4
     by_cases c5 : 0 ≤ x5_1
     ·rw [if_pos c5] at H
      have c5b0 : decide (0 ≤ x5_1) = true:=decide_eq_true c5
      clear c5
      by_cases c6 : x5_1 < (l1.length : Int)
      ·rw [if_pos c6] at H
       have c6b0 : decide (x5_1 < (l1.length : Int)) = true:=decide_eq_true c6
       clear c6
       by_cases c7 : (rdOf ByteArray.empty l0 x5_1).toList = (rdOf ByteArray.empty l1 x5_1).toList
       ·rw [if_pos c7] at H
        have c7b0 : ((rdOf ByteArray.empty l0 x5_1).toList == (rdOf ByteArray.empty l1 x5_1).toList) = true:=beq_iff_eq.mpr c7
        have c7b1 : ((rdOf ByteArray.empty l0 x5_1).toList != (rdOf ByteArray.empty l1 x5_1).toList) = false:=bne_eq_false_iff_eq.mpr c7
        clear c7
        have H':=zm_ H
        clear H
        have p312 : 0 ≤ (x5_1 : Int):=zo_
        have q312 : x5_1 < (l0.length : Int):=zo_
        obtain ⟨ad312,e312,hx312_0⟩:=Kd.at_string HR0.out x5_1 p312 q312
        cases e312
        replace p312:=eq_true p312
        replace q312:=eq_true q312
        have p313 : 0 ≤ (x5_1 : Int):=zo_
        have q313 : x5_1 < (l1.length : Int):=zo_
        obtain ⟨ad313,e313,hx313_0⟩:=Kd.at_string HR1.out x5_1 p313 q313
        cases e313
        replace p313:=eq_true p313
        replace q313:=eq_true q313
        go_wp2
        repeat (go_quiet (fail);try go_wp2)
        go_roundg k1
        case measure => have:=HK1.out;omega
        case rel => exact ⟨(wrap64 (x5_1 + 1)),zV_,H',⟨by have:=HK1.out;omega⟩,by repeat (first|exact Drawn0.refl _|apply Drawn0.step)⟩
       ·rw [if_neg c7] at H
        have c7b0 : ((rdOf ByteArray.empty l0 x5_1).toList == (rdOf ByteArray.empty l1 x5_1).toList) = false:=beq_eq_false_iff_ne.mpr c7
        have c7b1 : ((rdOf ByteArray.empty l0 x5_1).toList != (rdOf ByteArray.empty l1 x5_1).toList) = true:=bne_iff_ne.mpr c7
        obtain rfl:=Option.some.inj H
        have p312 : 0 ≤ (x5_1 : Int):=zo_
        have q312 : x5_1 < (l0.length : Int):=zo_
        obtain ⟨ad312,e312,hx312_0⟩:=Kd.at_string HR0.out x5_1 p312 q312
        cases e312
        replace p312:=eq_true p312
        replace q312:=eq_true q312
        have p313 : 0 ≤ (x5_1 : Int):=zo_
        have q313 : x5_1 < (l1.length : Int):=zo_
        obtain ⟨ad313,e313,hx313_0⟩:=Kd.at_string HR1.out x5_1 p313 q313
        cases e313
        replace p313:=eq_true p313
        replace q313:=eq_true q313
        go_wp2
        repeat (go_quiet (fail);try go_wp2)
        go_ret
        exact ⟨by first|rfl|(simp;done)|(simp [*];done),by repeat (first|exact Drawn0.refl _|apply Drawn0.step)⟩
      ·rw [if_neg c6] at H
       exact absurd H (by simp)
     ·rw [if_neg c5] at H
      exact absurd H (by simp)
    ·rw [if_neg c4] at H
     have c4b0 : decide (x5_1 < (l0.length : Int)) = false:=decide_eq_false c4
     clear c4
     obtain rfl:=Option.some.inj H
     go_wp2
     repeat (go_quiet (fail);try go_wp2)
     go_ret
     exact ⟨by first|rfl|(simp;done)|(simp [*];done),by repeat (first|exact Drawn0.refl _|apply Drawn0.step)⟩
 ·rw [if_neg c3] at H
  have c3b0 : ((l0.length : Int) == (l1.length : Int)) = false:=beq_eq_false_iff_ne.mpr c3
  have c3b1 : ((l0.length : Int) != (l1.length : Int)) = true:=bne_iff_ne.mpr c3
  have c3b2 : (l0.length == l1.length) = false:=by first|simpa using c3|(simp at c3 ⊢;omega)
  obtain rfl:=Option.some.inj H
  go_enter Try.func40,Try.ntmps40
  go_wp2
  repeat (go_quiet (fail);try go_wp2)
  go_ret
  exact ⟨by first|rfl|(simp;done)|(simp [*];done),by repeat (first|exact Drawn0.refl _|apply Drawn0.step)⟩

def laws_eqIntS.l0 : Nat → List Int → List Int → Int → Option (Bool)
 |0,_,_,_ => none
 |k + 1,x0,x1,x5 => if x5 < (x0.length : Int) then (if 0 ≤ x5 then (if x5 < (x1.length : Int) then (if (rd x0 x5) = (rd x1 x5) then (laws_eqIntS.l0 k x0 x1 (wrap64 (x5 + 1))) else (some false)) else (none)) else (none)) else (some true)
def laws_eqIntS.f (k : Nat) (l0 : List Int) (l1 : List Int) : Option (Bool):=if (l0.length : Int) = (l1.length : Int) then (laws_eqIntS.l0 k l0 l1 0) else (some false)
theorem laws_eqIntS.mono_l : ∀ k,(∀ y0 y1 y2,LeO (laws_eqIntS.l0 k y0 y1 y2) (laws_eqIntS.l0 (k + 1) y0 y1 y2))
 |0 => fun _ _ _ r h => by simp [laws_eqIntS.l0] at h
 |k + 1 => by
  have ih0:=laws_eqIntS.mono_l k
  ·intro y0 y1 y2
   unfold laws_eqIntS.l0
   repeat' first
   |(with_reducible exact ih0 _ _ _)
   |(with_reducible exact LeO.refl _)
   |(with_reducible exact LeO.none _)
   |(with_reducible refine LeO.ite ?_ ?_)
   |(with_reducible refine LeO.bind ?_ (fun _ => ?_))
theorem laws_eqIntS.mono : ∀ a0 a1 k,LeO (laws_eqIntS.f k a0 a1) (laws_eqIntS.f (k + 1) a0 a1):=by
 intro a0 a1 k
 have ih0:=laws_eqIntS.mono_l k
 unfold laws_eqIntS.f
 repeat' first
   |(with_reducible exact ih0 _ _ _)
   |(with_reducible exact LeO.refl _)
   |(with_reducible exact LeO.none _)
   |(with_reducible refine LeO.ite ?_ ?_)
   |(with_reducible refine LeO.bind ?_ (fun _ => ?_))
set_option maxHeartbeats 8000000 in
set_option maxRecDepth 100000 in
theorem laws_eqIntS.calls (k : Nat) (A0 : Option Addr) (c0 : Nat) (l0 : List Int) (A1 : Option Addr) (c1 : Nat) (l1 : List Int) (r : Bool) (w : World) (hr0 : Kd.C (Kd.int .i64) w A0 l0.length l0) (hc0 : l0.length ≤ c0) (hr1 : Kd.C (Kd.int .i64) w A1 l1.length l1) (hc1 : l1.length ≤ c1) (h : laws_eqIntS.f k l0 l1 = some r) :
  Calls Try.prog 42 #[.slice A0 l0.length c0,.slice A1 l1.length c1] w fun e w' => e = .returned (.bool r) ∧ Drawn0 w w':=by
 have HR0:=zm_ hr0
 have HC0:=zm_ hc0
 clear hr0 hc0
 have HR1:=zm_ hr1
 have HC1:=zm_ hc1
 clear hr1 hc1
 have H : (if (l0.length : Int) = (l1.length : Int) then (laws_eqIntS.l0 k l0 l1 0) else (some false)) = some r:=h
 clear h
 by_cases c3 : (l0.length : Int) = (l1.length : Int)
 ·rw [if_pos c3] at H
  have c3b0 : ((l0.length : Int) == (l1.length : Int)) = true:=beq_iff_eq.mpr c3
  have c3b1 : ((l0.length : Int) != (l1.length : Int)) = false:=bne_eq_false_iff_eq.mpr c3
  have c3b2 : (l0.length == l1.length) = true:=by first|simpa using c3|(simp at c3 ⊢;omega)
  clear c3
  have H':=zm_ H
  clear H
  go_enter Try.func42,Try.ntmps42
  go_wp2
  repeat (go_quiet (fail);try go_wp2)
  go_loopg [5] k (fun kq v5 w' => ∃ (x5_1 : Int),v5 = .int .i64 x5_1 ∧ Aside0 (laws_eqIntS.l0 kq l0 l1 x5_1 = some r) ∧ Aside0 (kq ≤ k) ∧ Drawn0 w w')
  case atStart => exact ⟨(0),zV_,H',⟨Nat.le_refl _⟩,by repeat (first|exact Drawn0.refl _|apply Drawn0.step)⟩
  case round =>
   clear H'
   try clear c1
   try clear p2
   try clear c3
   try clear c3b0
   try clear c3b1
   try clear c3b2
   obtain ⟨x5_1,rfl,HA,HK1,⟨m1,rfl⟩⟩:=hrel
   cases gk with
   |zero => exact absurd HA.out (by simp [laws_eqIntS.l0])
   |succ k1 =>
    have H:=HA.out
    clear HA
    simp only [laws_eqIntS.l0] at H
    by_cases c4 : x5_1 < (l0.length : Int)
    ·rw [if_pos c4] at H
     have c4b0 : decide (x5_1 < (l0.length : Int)) = true:=decide_eq_true c4
     clear c4
     by_cases c5 : 0 ≤ x5_1
     ·rw [if_pos c5] at H
      have c5b0 : decide (0 ≤ x5_1) = true:=decide_eq_true c5
      clear c5
      by_cases c6 : x5_1 < (l1.length : Int)
      ·rw [if_pos c6] at H
       have c6b0 : decide (x5_1 < (l1.length : Int)) = true:=decide_eq_true c6
       clear c6
       by_cases c7 : (rd l0 x5_1) = (rd l1 x5_1)
       ·rw [if_pos c7] at H
        have c7b0 : ((rd l0 x5_1) == (rd l1 x5_1)) = true:=beq_iff_eq.mpr c7
        have c7b1 : ((rd l0 x5_1) != (rd l1 x5_1)) = false:=bne_eq_false_iff_eq.mpr c7
        clear c7
        have H':=zm_ H
        clear H
        have p314 : 0 ≤ (x5_1 : Int):=zo_
        have q314 : x5_1 < (l0.length : Int):=zo_
        obtain ⟨ad314,e314,hx314_0⟩:=Kd.at_int HR0.out x5_1 p314 q314
        cases e314
        replace p314:=eq_true p314
        replace q314:=eq_true q314
        have p315 : 0 ≤ (x5_1 : Int):=zo_
        have q315 : x5_1 < (l1.length : Int):=zo_
        obtain ⟨ad315,e315,hx315_0⟩:=Kd.at_int HR1.out x5_1 p315 q315
        cases e315
        replace p315:=eq_true p315
        replace q315:=eq_true q315
        go_wp2
        repeat (go_quiet (fail);try go_wp2)
        go_roundg k1
        case measure => have:=HK1.out;omega
        case rel => exact ⟨(wrap64 (x5_1 + 1)),zV_,H',⟨by have:=HK1.out;omega⟩,by repeat (first|exact Drawn0.refl _|apply Drawn0.step)⟩
       ·rw [if_neg c7] at H
        have c7b0 : ((rd l0 x5_1) == (rd l1 x5_1)) = false:=beq_eq_false_iff_ne.mpr c7
        have c7b1 : ((rd l0 x5_1) != (rd l1 x5_1)) = true:=bne_iff_ne.mpr c7
        obtain rfl:=Option.some.inj H
        have p314 : 0 ≤ (x5_1 : Int):=zo_
        have q314 : x5_1 < (l0.length : Int):=zo_
        obtain ⟨ad314,e314,hx314_0⟩:=Kd.at_int HR0.out x5_1 p314 q314
        cases e314
        replace p314:=eq_true p314
        replace q314:=eq_true q314
        have p315 : 0 ≤ (x5_1 : Int):=zo_
        have q315 : x5_1 < (l1.length : Int):=zo_
        obtain ⟨ad315,e315,hx315_0⟩:=Kd.at_int HR1.out x5_1 p315 q315
        cases e315
        replace p315:=eq_true p315
        replace q315:=eq_true q315
        go_wp2
        repeat (go_quiet (fail);try go_wp2)
        go_ret
        exact ⟨by first|rfl|(simp;done)|(simp [*];done),by repeat (first|exact Drawn0.refl _|apply Drawn0.step)⟩
      ·rw [if_neg c6] at H
       exact absurd H (by simp)
     ·rw [if_neg c5] at H
      exact absurd H (by simp)
    ·rw [if_neg c4] at H
     have c4b0 : decide (x5_1 < (l0.length : Int)) = false:=decide_eq_false c4
     clear c4
     obtain rfl:=Option.some.inj H
     go_wp2
     repeat (go_quiet (fail);try go_wp2)
     go_ret
     exact ⟨by first|rfl|(simp;done)|(simp [*];done),by repeat (first|exact Drawn0.refl _|apply Drawn0.step)⟩
 ·rw [if_neg c3] at H
  have c3b0 : ((l0.length : Int) == (l1.length : Int)) = false:=beq_eq_false_iff_ne.mpr c3
  have c3b1 : ((l0.length : Int) != (l1.length : Int)) = true:=bne_iff_ne.mpr c3
  have c3b2 : (l0.length == l1.length) = false:=by first|simpa using c3|(simp at c3 ⊢;omega)
  obtain rfl:=Option.some.inj H
  go_enter Try.func42,Try.ntmps42
  go_wp2
  repeat (go_quiet (fail);try go_wp2)
  go_ret
  exact ⟨by first|rfl|(simp;done)|(simp [*];done),by repeat (first|exact Drawn0.refl _|apply Drawn0.step)⟩

def laws_eqExNode.f (k : Nat) (a0_0 : Int) (a0_1 : Int) (a0_2 : ByteArray) (l0_3 : List Int) (a1_0 : Int) (a1_1 : Int) (a1_2 : ByteArray) (l1_3 : List Int) : Option (Bool):=if a0_0 = a1_0 then (if a0_1 = a1_1 then (if a0_2.toList = a1_2.toList then ((laws_eqIntS.f k l0_3 l1_3).bind fun t318 => (if t318 = true then (some true) else (some false))) else (some false)) else (some false)) else (some false)
theorem laws_eqExNode.mono : ∀ a0 a1 a2 a3 a4 a5 a6 a7 k,LeO (laws_eqExNode.f k a0 a1 a2 a3 a4 a5 a6 a7) (laws_eqExNode.f (k + 1) a0 a1 a2 a3 a4 a5 a6 a7):=by
 intro a0 a1 a2 a3 a4 a5 a6 a7 k
 unfold laws_eqExNode.f
 repeat' first
   |(with_reducible exact laws_eqIntS.mono _ _ _)
   |(with_reducible exact LeO.refl _)
   |(with_reducible exact LeO.none _)
   |(with_reducible refine LeO.ite ?_ ?_)
   |(with_reducible refine LeO.bind ?_ (fun _ => ?_))
set_option maxHeartbeats 8000000 in
set_option maxRecDepth 100000 in
theorem laws_eqExNode.calls (k : Nat) (a0_0 : Int) (a0_1 : Int) (a0_2 : ByteArray) (A0_3 : Option Addr) (c0_3 : Nat) (l0_3 : List Int) (a1_0 : Int) (a1_1 : Int) (a1_2 : ByteArray) (A1_3 : Option Addr) (c1_3 : Nat) (l1_3 : List Int) (r : Bool) (w : World) (hr0_3 : Kd.C (Kd.int .i64) w A0_3 l0_3.length l0_3) (hc0_3 : l0_3.length ≤ c0_3) (hr1_3 : Kd.C (Kd.int .i64) w A1_3 l1_3.length l1_3) (hc1_3 : l1_3.length ≤ c1_3) (h : laws_eqExNode.f k a0_0 a0_1 a0_2 l0_3 a1_0 a1_1 a1_2 l1_3 = some r) :
  Calls Try.prog 65 #[.agg #[.int .i64 a0_0,.int .i64 a0_1,.string a0_2,.slice A0_3 l0_3.length c0_3],.agg #[.int .i64 a1_0,.int .i64 a1_1,.string a1_2,.slice A1_3 l1_3.length c1_3]] w fun e w' => e = .returned (.bool r) ∧ Below w.heap.size w w':=by
 have hu131:=Try.underlying131
 have HR0_3:=zm_ hr0_3
 have HC0_3:=zm_ hc0_3
 clear hr0_3 hc0_3
 have HR1_3:=zm_ hr1_3
 have HC1_3:=zm_ hc1_3
 clear hr1_3 hc1_3
 have HB:=zm_ (Below.refl w.heap.size w)
 have H : (if a0_0 = a1_0 then (if a0_1 = a1_1 then (if a0_2.toList = a1_2.toList then ((laws_eqIntS.f k l0_3 l1_3).bind fun t318 => (if t318 = true then (some true) else (some false))) else (some false)) else (some false)) else (some false)) = some r:=h
 clear h
 by_cases c3 : a0_0 = a1_0
 ·rw [if_pos c3] at H
  have c3b0 : (a0_0 == a1_0) = true:=beq_iff_eq.mpr c3
  have c3b1 : (a0_0 != a1_0) = false:=bne_eq_false_iff_eq.mpr c3
  clear c3
  by_cases c4 : a0_1 = a1_1
  ·rw [if_pos c4] at H
   have c4b0 : (a0_1 == a1_1) = true:=beq_iff_eq.mpr c4
   have c4b1 : (a0_1 != a1_1) = false:=bne_eq_false_iff_eq.mpr c4
   clear c4
   by_cases c5 : a0_2.toList = a1_2.toList
   ·rw [if_pos c5] at H
    have c5b0 : (a0_2.toList == a1_2.toList) = true:=beq_iff_eq.mpr c5
    have c5b1 : (a0_2.toList != a1_2.toList) = false:=bne_eq_false_iff_eq.mpr c5
    clear c5
    replace H:=Option.bind_eq_some_iff.mp H
    obtain ⟨t318,A60,H⟩:=H
    replace H : (if t318 = true then (some true) else (some false)) = some r:=H
    have A6:=zm_ A60
    clear A60
    by_cases c7 : t318 = true
    ·subst c7
     have H1 : (some true) = some r:=by rw [if_pos rfl] at H;exact H
     clear H
     have H:=H1
     clear H1
     obtain rfl:=Option.some.inj H
     go_enter Try.func65,Try.ntmps65
     go_wp2_with (first|((with_reducible refine gate_dst (N:=2) rfl ?_);refine box_event ?hg (N:=2) ?hd (cs:=#[.int .i64 a0_0,.int .i64 a0_1,.string a0_2,.slice A0_3 l0_3.length c0_3]) (t:=131) ?hr ?_;(case hd => rfl);(case hg => rfl);(case hr => first|(go_simp;done)|(go_simp;rfl));intro gb316 hg w8 hbox hb;have n0_:=zm_ (below_step zB_ hb);have n1_:=zm_ (hbox);have n2_:=zm_ ((by rw [hg];exact (below_size zB_) : w.heap.size ≤ gb316));have n3_:=zm_ ((by rw [hg];exact (below_size zB_) : w.heap.size ≤ gb316));clear HB;have HB:=n0_;have BK316:=n1_;have GW316:=n2_;have GE316:=n3_;clear n0_ n1_ n2_ n3_;clear hb hbox hg)|((with_reducible refine gate_dst (N:=3) rfl ?_);refine box_event ?hg (N:=3) ?hd (cs:=#[.int .i64 a1_0,.int .i64 a1_1,.string a1_2,.slice A1_3 l1_3.length c1_3]) (t:=131) ?hr ?_;(case hd => rfl);(case hg => rfl);(case hr => first|(go_simp;done)|(go_simp;rfl));intro gb317 hg w9 hbox hb;have n0_:=zm_ (blk_below (g:=gb316) (o:=.cells #[.int .i64 a0_0,.int .i64 a0_1,.string a0_2,.slice A0_3 l0_3.length c0_3] 131 (0,0)) (by (with_reducible repeat first|refine zl_ ?_ _|refine zr_ ?_|refine zk_ ?_ _);exact BK316.out) hb);have n1_:=zm_ (below_step (by repeat (first|(with_reducible first|exact HB.out|apply za_|apply zn_|apply zd_|refine zs_ ?_ GE316.out)|exact HB.out)) hb);have n2_:=zm_ (hbox);have n3_:=zm_ ((by rw [hg];exact (below_size (by repeat (first|(with_reducible first|exact HB.out|apply za_|apply zn_|apply zd_|refine zs_ ?_ GE316.out)|exact HB.out))) : w.heap.size ≤ gb317));have n4_:=zm_ ((by rw [hg];exact (below_size (by repeat (first|(with_reducible first|exact HB.out|apply za_|apply zn_|apply zd_|refine zs_ ?_ GE316.out)|exact HB.out))) : w.heap.size ≤ gb317));have n5_:=zm_ ((by rw [hg];exact Nat.ne_of_lt (blk_lt (g:=gb316) (o:=.cells #[.int .i64 a0_0,.int .i64 a0_1,.string a0_2,.slice A0_3 l0_3.length c0_3] 131 (0,0)) (by (with_reducible repeat first|refine zl_ ?_ _|refine zr_ ?_|refine zk_ ?_ _);exact BK316.out)) : gb316 ≠ gb317));have n6_:=zm_ ((by rw [hg];exact Nat.ne_of_gt (blk_lt (g:=gb316) (o:=.cells #[.int .i64 a0_0,.int .i64 a0_1,.string a0_2,.slice A0_3 l0_3.length c0_3] 131 (0,0)) (by (with_reducible repeat first|refine zl_ ?_ _|refine zr_ ?_|refine zk_ ?_ _);exact BK316.out)) : gb317 ≠ gb316));clear BK316;clear HB;have BK316:=n0_;have HB:=n1_;have BK317:=n2_;have GW317:=n3_;have GE317:=n4_;have NB316_317:=n5_;have NB317_316:=n6_;clear n0_ n1_ n2_ n3_ n4_ n5_ n6_;clear hb hbox hg;have hnb10:=NB316_317.out;have hnc10:=NB317_316.out;have hcz11_0 : w9.cell? ⟨gb316,0,none⟩ = some (.int .i64 a0_0):=(zc_ BK316.out 0).trans rfl;have hcz11_1 : w9.cell? ⟨gb316,1,none⟩ = some (.int .i64 a0_1):=(zc_ BK316.out 1).trans rfl;have hcz11_2 : w9.cell? ⟨gb316,2,none⟩ = some (.string a0_2):=(zc_ BK316.out 2).trans rfl;have hcz11_3 : w9.cell? ⟨gb316,3,none⟩ = some (.slice A0_3 l0_3.length c0_3):=(zc_ BK316.out 3).trans rfl;have hfz11_0:=zf_ BK316.out 0;have hfz11_1:=zf_ BK316.out 1;have hfz11_2:=zf_ BK316.out 2;have hfz11_3:=zf_ BK316.out 3;have hcz12_0 : w9.cell? ⟨gb317,0,none⟩ = some (.int .i64 a1_0):=(zc_ BK317.out 0).trans rfl;have hcz12_1 : w9.cell? ⟨gb317,1,none⟩ = some (.int .i64 a1_1):=(zc_ BK317.out 1).trans rfl;have hcz12_2 : w9.cell? ⟨gb317,2,none⟩ = some (.string a1_2):=(zc_ BK317.out 2).trans rfl;have hcz12_3 : w9.cell? ⟨gb317,3,none⟩ = some (.slice A1_3 l1_3.length c1_3):=(zc_ BK317.out 3).trans rfl;have hfz12_0:=zf_ BK317.out 0;have hfz12_1:=zf_ BK317.out 1;have hfz12_2:=zf_ BK317.out 2;have hfz12_3:=zf_ BK317.out 3)|((with_reducible refine gate_callee (f:=42) rfl ?_);refine goesL_ (some 24) rfl rfl Try.func42 (by kernel_rfl) rfl #[.slice A0_3 l0_3.length c0_3,.slice A1_3 l1_3.length c1_3] rfl zq_ ?_;(with_reducible refine (laws_eqIntS.calls k _ _ l0_3 _ _ l1_3 true _ ?side1 ?side2 ?side3 ?side4 A6.out).mono ?_);(case side1 => repeat (first|exact (Kd.C_below HR0_3.out HB.out)|(with_reducible refine Kd.C_alloc ?_ _)|(with_reducible refine Kd.C_drewN ?_ _)|(with_reducible refine Kd.C_drew ?_)));(case side2 => exact HC0_3.out);(case side3 => repeat (first|exact (Kd.C_below HR1_3.out HB.out)|(with_reducible refine Kd.C_alloc ?_ _)|(with_reducible refine Kd.C_drewN ?_ _)|(with_reducible refine Kd.C_drew ?_)));(case side4 => exact HC1_3.out);rintro e w' ⟨rfl,⟨nd,rfl⟩⟩;refine ⟨_,rfl,?_⟩))
     go_ret
     exact ⟨zE_,by repeat (first|(with_reducible first|exact HB.out|apply za_|apply zn_|apply zd_|refine zs_ ?_ GE316.out|refine zs_ ?_ GE317.out)|exact HB.out)⟩
    ·replace c7:=Bool.eq_false_iff.mpr c7
     subst c7
     have H1 : (some false) = some r:=by rw [if_neg (show ¬ (false = true) by decide)] at H;exact H
     clear H
     have H:=H1
     clear H1
     obtain rfl:=Option.some.inj H
     go_enter Try.func65,Try.ntmps65
     go_wp2_with (first|((with_reducible refine gate_dst (N:=2) rfl ?_);refine box_event ?hg (N:=2) ?hd (cs:=#[.int .i64 a0_0,.int .i64 a0_1,.string a0_2,.slice A0_3 l0_3.length c0_3]) (t:=131) ?hr ?_;(case hd => rfl);(case hg => rfl);(case hr => first|(go_simp;done)|(go_simp;rfl));intro gb316 hg w13 hbox hb;have n0_:=zm_ (below_step zB_ hb);have n1_:=zm_ (hbox);have n2_:=zm_ ((by rw [hg];exact (below_size zB_) : w.heap.size ≤ gb316));have n3_:=zm_ ((by rw [hg];exact (below_size zB_) : w.heap.size ≤ gb316));clear HB;have HB:=n0_;have BK316:=n1_;have GW316:=n2_;have GE316:=n3_;clear n0_ n1_ n2_ n3_;clear hb hbox hg)|((with_reducible refine gate_dst (N:=3) rfl ?_);refine box_event ?hg (N:=3) ?hd (cs:=#[.int .i64 a1_0,.int .i64 a1_1,.string a1_2,.slice A1_3 l1_3.length c1_3]) (t:=131) ?hr ?_;(case hd => rfl);(case hg => rfl);(case hr => first|(go_simp;done)|(go_simp;rfl));intro gb317 hg w14 hbox hb;have n0_:=zm_ (blk_below (g:=gb316) (o:=.cells #[.int .i64 a0_0,.int .i64 a0_1,.string a0_2,.slice A0_3 l0_3.length c0_3] 131 (0,0)) (by (with_reducible repeat first|refine zl_ ?_ _|refine zr_ ?_|refine zk_ ?_ _);exact BK316.out) hb);have n1_:=zm_ (below_step (by repeat (first|(with_reducible first|exact HB.out|apply za_|apply zn_|apply zd_|refine zs_ ?_ GE316.out)|exact HB.out)) hb);have n2_:=zm_ (hbox);have n3_:=zm_ ((by rw [hg];exact (below_size (by repeat (first|(with_reducible first|exact HB.out|apply za_|apply zn_|apply zd_|refine zs_ ?_ GE316.out)|exact HB.out))) : w.heap.size ≤ gb317));have n4_:=zm_ ((by rw [hg];exact (below_size (by repeat (first|(with_reducible first|exact HB.out|apply za_|apply zn_|apply zd_|refine zs_ ?_ GE316.out)|exact HB.out))) : w.heap.size ≤ gb317));have n5_:=zm_ ((by rw [hg];exact Nat.ne_of_lt (blk_lt (g:=gb316) (o:=.cells #[.int .i64 a0_0,.int .i64 a0_1,.string a0_2,.slice A0_3 l0_3.length c0_3] 131 (0,0)) (by (with_reducible repeat first|refine zl_ ?_ _|refine zr_ ?_|refine zk_ ?_ _);exact BK316.out)) : gb316 ≠ gb317));have n6_:=zm_ ((by rw [hg];exact Nat.ne_of_gt (blk_lt (g:=gb316) (o:=.cells #[.int .i64 a0_0,.int .i64 a0_1,.string a0_2,.slice A0_3 l0_3.length c0_3] 131 (0,0)) (by (with_reducible repeat first|refine zl_ ?_ _|refine zr_ ?_|refine zk_ ?_ _);exact BK316.out)) : gb317 ≠ gb316));clear BK316;clear HB;have BK316:=n0_;have HB:=n1_;have BK317:=n2_;have GW317:=n3_;have GE317:=n4_;have NB316_317:=n5_;have NB317_316:=n6_;clear n0_ n1_ n2_ n3_ n4_ n5_ n6_;clear hb hbox hg;have hnb15:=NB316_317.out;have hnc15:=NB317_316.out;have hcz16_0 : w14.cell? ⟨gb316,0,none⟩ = some (.int .i64 a0_0):=(zc_ BK316.out 0).trans rfl;have hcz16_1 : w14.cell? ⟨gb316,1,none⟩ = some (.int .i64 a0_1):=(zc_ BK316.out 1).trans rfl;have hcz16_2 : w14.cell? ⟨gb316,2,none⟩ = some (.string a0_2):=(zc_ BK316.out 2).trans rfl;have hcz16_3 : w14.cell? ⟨gb316,3,none⟩ = some (.slice A0_3 l0_3.length c0_3):=(zc_ BK316.out 3).trans rfl;have hfz16_0:=zf_ BK316.out 0;have hfz16_1:=zf_ BK316.out 1;have hfz16_2:=zf_ BK316.out 2;have hfz16_3:=zf_ BK316.out 3;have hcz17_0 : w14.cell? ⟨gb317,0,none⟩ = some (.int .i64 a1_0):=(zc_ BK317.out 0).trans rfl;have hcz17_1 : w14.cell? ⟨gb317,1,none⟩ = some (.int .i64 a1_1):=(zc_ BK317.out 1).trans rfl;have hcz17_2 : w14.cell? ⟨gb317,2,none⟩ = some (.string a1_2):=(zc_ BK317.out 2).trans rfl;have hcz17_3 : w14.cell? ⟨gb317,3,none⟩ = some (.slice A1_3 l1_3.length c1_3):=(zc_ BK317.out 3).trans rfl;have hfz17_0:=zf_ BK317.out 0;have hfz17_1:=zf_ BK317.out 1;have hfz17_2:=zf_ BK317.out 2;have hfz17_3:=zf_ BK317.out 3)|((with_reducible refine gate_callee (f:=42) rfl ?_);refine goesL_ (some 24) rfl rfl Try.func42 (by kernel_rfl) rfl #[.slice A0_3 l0_3.length c0_3,.slice A1_3 l1_3.length c1_3] rfl zq_ ?_;(with_reducible refine (laws_eqIntS.calls k _ _ l0_3 _ _ l1_3 false _ ?side1 ?side2 ?side3 ?side4 A6.out).mono ?_);(case side1 => repeat (first|exact (Kd.C_below HR0_3.out HB.out)|(with_reducible refine Kd.C_alloc ?_ _)|(with_reducible refine Kd.C_drewN ?_ _)|(with_reducible refine Kd.C_drew ?_)));(case side2 => exact HC0_3.out);(case side3 => repeat (first|exact (Kd.C_below HR1_3.out HB.out)|(with_reducible refine Kd.C_alloc ?_ _)|(with_reducible refine Kd.C_drewN ?_ _)|(with_reducible refine Kd.C_drew ?_)));(case side4 => exact HC1_3.out);rintro e w' ⟨rfl,⟨nd,rfl⟩⟩;refine ⟨_,rfl,?_⟩))
     go_ret
     exact ⟨zE_,by repeat (first|(with_reducible first|exact HB.out|apply za_|apply zn_|apply zd_|refine zs_ ?_ GE316.out|refine zs_ ?_ GE317.out)|exact HB.out)⟩
   ·rw [if_neg c5] at H
    have c5b0 : (a0_2.toList == a1_2.toList) = false:=beq_eq_false_iff_ne.mpr c5
    have c5b1 : (a0_2.toList != a1_2.toList) = true:=bne_iff_ne.mpr c5
    obtain rfl:=Option.some.inj H
    go_enter Try.func65,Try.ntmps65
    go_wp2_with (first|((with_reducible refine gate_dst (N:=2) rfl ?_);refine box_event ?hg (N:=2) ?hd (cs:=#[.int .i64 a0_0,.int .i64 a0_1,.string a0_2,.slice A0_3 l0_3.length c0_3]) (t:=131) ?hr ?_;(case hd => rfl);(case hg => rfl);(case hr => first|(go_simp;done)|(go_simp;rfl));intro gb316 hg w18 hbox hb;have n0_:=zm_ (below_step zB_ hb);have n1_:=zm_ (hbox);have n2_:=zm_ ((by rw [hg];exact (below_size zB_) : w.heap.size ≤ gb316));have n3_:=zm_ ((by rw [hg];exact (below_size zB_) : w.heap.size ≤ gb316));clear HB;have HB:=n0_;have BK316:=n1_;have GW316:=n2_;have GE316:=n3_;clear n0_ n1_ n2_ n3_;clear hb hbox hg)|((with_reducible refine gate_dst (N:=3) rfl ?_);refine box_event ?hg (N:=3) ?hd (cs:=#[.int .i64 a1_0,.int .i64 a1_1,.string a1_2,.slice A1_3 l1_3.length c1_3]) (t:=131) ?hr ?_;(case hd => rfl);(case hg => rfl);(case hr => first|(go_simp;done)|(go_simp;rfl));intro gb317 hg w19 hbox hb;have n0_:=zm_ (blk_below (g:=gb316) (o:=.cells #[.int .i64 a0_0,.int .i64 a0_1,.string a0_2,.slice A0_3 l0_3.length c0_3] 131 (0,0)) (by (with_reducible repeat first|refine zl_ ?_ _|refine zr_ ?_|refine zk_ ?_ _);exact BK316.out) hb);have n1_:=zm_ (below_step (by repeat (first|(with_reducible first|exact HB.out|apply za_|apply zn_|apply zd_|refine zs_ ?_ GE316.out)|exact HB.out)) hb);have n2_:=zm_ (hbox);have n3_:=zm_ ((by rw [hg];exact (below_size (by repeat (first|(with_reducible first|exact HB.out|apply za_|apply zn_|apply zd_|refine zs_ ?_ GE316.out)|exact HB.out))) : w.heap.size ≤ gb317));have n4_:=zm_ ((by rw [hg];exact (below_size (by repeat (first|(with_reducible first|exact HB.out|apply za_|apply zn_|apply zd_|refine zs_ ?_ GE316.out)|exact HB.out))) : w.heap.size ≤ gb317));have n5_:=zm_ ((by rw [hg];exact Nat.ne_of_lt (blk_lt (g:=gb316) (o:=.cells #[.int .i64 a0_0,.int .i64 a0_1,.string a0_2,.slice A0_3 l0_3.length c0_3] 131 (0,0)) (by (with_reducible repeat first|refine zl_ ?_ _|refine zr_ ?_|refine zk_ ?_ _);exact BK316.out)) : gb316 ≠ gb317));have n6_:=zm_ ((by rw [hg];exact Nat.ne_of_gt (blk_lt (g:=gb316) (o:=.cells #[.int .i64 a0_0,.int .i64 a0_1,.string a0_2,.slice A0_3 l0_3.length c0_3] 131 (0,0)) (by (with_reducible repeat first|refine zl_ ?_ _|refine zr_ ?_|refine zk_ ?_ _);exact BK316.out)) : gb317 ≠ gb316));clear BK316;clear HB;have BK316:=n0_;have HB:=n1_;have BK317:=n2_;have GW317:=n3_;have GE317:=n4_;have NB316_317:=n5_;have NB317_316:=n6_;clear n0_ n1_ n2_ n3_ n4_ n5_ n6_;clear hb hbox hg;have hnb20:=NB316_317.out;have hnc20:=NB317_316.out;have hcz21_0 : w19.cell? ⟨gb316,0,none⟩ = some (.int .i64 a0_0):=(zc_ BK316.out 0).trans rfl;have hcz21_1 : w19.cell? ⟨gb316,1,none⟩ = some (.int .i64 a0_1):=(zc_ BK316.out 1).trans rfl;have hcz21_2 : w19.cell? ⟨gb316,2,none⟩ = some (.string a0_2):=(zc_ BK316.out 2).trans rfl;have hcz21_3 : w19.cell? ⟨gb316,3,none⟩ = some (.slice A0_3 l0_3.length c0_3):=(zc_ BK316.out 3).trans rfl;have hfz21_0:=zf_ BK316.out 0;have hfz21_1:=zf_ BK316.out 1;have hfz21_2:=zf_ BK316.out 2;have hfz21_3:=zf_ BK316.out 3;have hcz22_0 : w19.cell? ⟨gb317,0,none⟩ = some (.int .i64 a1_0):=(zc_ BK317.out 0).trans rfl;have hcz22_1 : w19.cell? ⟨gb317,1,none⟩ = some (.int .i64 a1_1):=(zc_ BK317.out 1).trans rfl;have hcz22_2 : w19.cell? ⟨gb317,2,none⟩ = some (.string a1_2):=(zc_ BK317.out 2).trans rfl;have hcz22_3 : w19.cell? ⟨gb317,3,none⟩ = some (.slice A1_3 l1_3.length c1_3):=(zc_ BK317.out 3).trans rfl;have hfz22_0:=zf_ BK317.out 0;have hfz22_1:=zf_ BK317.out 1;have hfz22_2:=zf_ BK317.out 2;have hfz22_3:=zf_ BK317.out 3))
    go_ret
    exact ⟨zE_,by repeat (first|(with_reducible first|exact HB.out|apply za_|apply zn_|apply zd_|refine zs_ ?_ GE316.out|refine zs_ ?_ GE317.out)|exact HB.out)⟩
  ·rw [if_neg c4] at H
   have c4b0 : (a0_1 == a1_1) = false:=beq_eq_false_iff_ne.mpr c4
   have c4b1 : (a0_1 != a1_1) = true:=bne_iff_ne.mpr c4
   obtain rfl:=Option.some.inj H
   go_enter Try.func65,Try.ntmps65
   go_wp2_with (first|((with_reducible refine gate_dst (N:=2) rfl ?_);refine box_event ?hg (N:=2) ?hd (cs:=#[.int .i64 a0_0,.int .i64 a0_1,.string a0_2,.slice A0_3 l0_3.length c0_3]) (t:=131) ?hr ?_;(case hd => rfl);(case hg => rfl);(case hr => first|(go_simp;done)|(go_simp;rfl));intro gb316 hg w23 hbox hb;have n0_:=zm_ (below_step zB_ hb);have n1_:=zm_ (hbox);have n2_:=zm_ ((by rw [hg];exact (below_size zB_) : w.heap.size ≤ gb316));have n3_:=zm_ ((by rw [hg];exact (below_size zB_) : w.heap.size ≤ gb316));clear HB;have HB:=n0_;have BK316:=n1_;have GW316:=n2_;have GE316:=n3_;clear n0_ n1_ n2_ n3_;clear hb hbox hg)|((with_reducible refine gate_dst (N:=3) rfl ?_);refine box_event ?hg (N:=3) ?hd (cs:=#[.int .i64 a1_0,.int .i64 a1_1,.string a1_2,.slice A1_3 l1_3.length c1_3]) (t:=131) ?hr ?_;(case hd => rfl);(case hg => rfl);(case hr => first|(go_simp;done)|(go_simp;rfl));intro gb317 hg w24 hbox hb;have n0_:=zm_ (blk_below (g:=gb316) (o:=.cells #[.int .i64 a0_0,.int .i64 a0_1,.string a0_2,.slice A0_3 l0_3.length c0_3] 131 (0,0)) (by (with_reducible repeat first|refine zl_ ?_ _|refine zr_ ?_|refine zk_ ?_ _);exact BK316.out) hb);have n1_:=zm_ (below_step (by repeat (first|(with_reducible first|exact HB.out|apply za_|apply zn_|apply zd_|refine zs_ ?_ GE316.out)|exact HB.out)) hb);have n2_:=zm_ (hbox);have n3_:=zm_ ((by rw [hg];exact (below_size (by repeat (first|(with_reducible first|exact HB.out|apply za_|apply zn_|apply zd_|refine zs_ ?_ GE316.out)|exact HB.out))) : w.heap.size ≤ gb317));have n4_:=zm_ ((by rw [hg];exact (below_size (by repeat (first|(with_reducible first|exact HB.out|apply za_|apply zn_|apply zd_|refine zs_ ?_ GE316.out)|exact HB.out))) : w.heap.size ≤ gb317));have n5_:=zm_ ((by rw [hg];exact Nat.ne_of_lt (blk_lt (g:=gb316) (o:=.cells #[.int .i64 a0_0,.int .i64 a0_1,.string a0_2,.slice A0_3 l0_3.length c0_3] 131 (0,0)) (by (with_reducible repeat first|refine zl_ ?_ _|refine zr_ ?_|refine zk_ ?_ _);exact BK316.out)) : gb316 ≠ gb317));have n6_:=zm_ ((by rw [hg];exact Nat.ne_of_gt (blk_lt (g:=gb316) (o:=.cells #[.int .i64 a0_0,.int .i64 a0_1,.string a0_2,.slice A0_3 l0_3.length c0_3] 131 (0,0)) (by (with_reducible repeat first|refine zl_ ?_ _|refine zr_ ?_|refine zk_ ?_ _);exact BK316.out)) : gb317 ≠ gb316));clear BK316;clear HB;have BK316:=n0_;have HB:=n1_;have BK317:=n2_;have GW317:=n3_;have GE317:=n4_;have NB316_317:=n5_;have NB317_316:=n6_;clear n0_ n1_ n2_ n3_ n4_ n5_ n6_;clear hb hbox hg;have hnb25:=NB316_317.out;have hnc25:=NB317_316.out;have hcz26_0 : w24.cell? ⟨gb316,0,none⟩ = some (.int .i64 a0_0):=(zc_ BK316.out 0).trans rfl;have hcz26_1 : w24.cell? ⟨gb316,1,none⟩ = some (.int .i64 a0_1):=(zc_ BK316.out 1).trans rfl;have hcz26_2 : w24.cell? ⟨gb316,2,none⟩ = some (.string a0_2):=(zc_ BK316.out 2).trans rfl;have hcz26_3 : w24.cell? ⟨gb316,3,none⟩ = some (.slice A0_3 l0_3.length c0_3):=(zc_ BK316.out 3).trans rfl;have hfz26_0:=zf_ BK316.out 0;have hfz26_1:=zf_ BK316.out 1;have hfz26_2:=zf_ BK316.out 2;have hfz26_3:=zf_ BK316.out 3;have hcz27_0 : w24.cell? ⟨gb317,0,none⟩ = some (.int .i64 a1_0):=(zc_ BK317.out 0).trans rfl;have hcz27_1 : w24.cell? ⟨gb317,1,none⟩ = some (.int .i64 a1_1):=(zc_ BK317.out 1).trans rfl;have hcz27_2 : w24.cell? ⟨gb317,2,none⟩ = some (.string a1_2):=(zc_ BK317.out 2).trans rfl;have hcz27_3 : w24.cell? ⟨gb317,3,none⟩ = some (.slice A1_3 l1_3.length c1_3):=(zc_ BK317.out 3).trans rfl;have hfz27_0:=zf_ BK317.out 0;have hfz27_1:=zf_ BK317.out 1;have hfz27_2:=zf_ BK317.out 2;have hfz27_3:=zf_ BK317.out 3))
   go_ret
   exact ⟨zE_,by repeat (first|(with_reducible first|exact HB.out|apply za_|apply zn_|apply zd_|refine zs_ ?_ GE316.out|refine zs_ ?_ GE317.out)|exact HB.out)⟩
 ·rw [if_neg c3] at H
  have c3b0 : (a0_0 == a1_0) = false:=beq_eq_false_iff_ne.mpr c3
  have c3b1 : (a0_0 != a1_0) = true:=bne_iff_ne.mpr c3
  obtain rfl:=Option.some.inj H
  go_enter Try.func65,Try.ntmps65
  go_wp2_with (first|((with_reducible refine gate_dst (N:=2) rfl ?_);refine box_event ?hg (N:=2) ?hd (cs:=#[.int .i64 a0_0,.int .i64 a0_1,.string a0_2,.slice A0_3 l0_3.length c0_3]) (t:=131) ?hr ?_;(case hd => rfl);(case hg => rfl);(case hr => first|(go_simp;done)|(go_simp;rfl));intro gb316 hg w28 hbox hb;have n0_:=zm_ (below_step zB_ hb);have n1_:=zm_ (hbox);have n2_:=zm_ ((by rw [hg];exact (below_size zB_) : w.heap.size ≤ gb316));have n3_:=zm_ ((by rw [hg];exact (below_size zB_) : w.heap.size ≤ gb316));clear HB;have HB:=n0_;have BK316:=n1_;have GW316:=n2_;have GE316:=n3_;clear n0_ n1_ n2_ n3_;clear hb hbox hg)|((with_reducible refine gate_dst (N:=3) rfl ?_);refine box_event ?hg (N:=3) ?hd (cs:=#[.int .i64 a1_0,.int .i64 a1_1,.string a1_2,.slice A1_3 l1_3.length c1_3]) (t:=131) ?hr ?_;(case hd => rfl);(case hg => rfl);(case hr => first|(go_simp;done)|(go_simp;rfl));intro gb317 hg w29 hbox hb;have n0_:=zm_ (blk_below (g:=gb316) (o:=.cells #[.int .i64 a0_0,.int .i64 a0_1,.string a0_2,.slice A0_3 l0_3.length c0_3] 131 (0,0)) (by (with_reducible repeat first|refine zl_ ?_ _|refine zr_ ?_|refine zk_ ?_ _);exact BK316.out) hb);have n1_:=zm_ (below_step (by repeat (first|(with_reducible first|exact HB.out|apply za_|apply zn_|apply zd_|refine zs_ ?_ GE316.out)|exact HB.out)) hb);have n2_:=zm_ (hbox);have n3_:=zm_ ((by rw [hg];exact (below_size (by repeat (first|(with_reducible first|exact HB.out|apply za_|apply zn_|apply zd_|refine zs_ ?_ GE316.out)|exact HB.out))) : w.heap.size ≤ gb317));have n4_:=zm_ ((by rw [hg];exact (below_size (by repeat (first|(with_reducible first|exact HB.out|apply za_|apply zn_|apply zd_|refine zs_ ?_ GE316.out)|exact HB.out))) : w.heap.size ≤ gb317));have n5_:=zm_ ((by rw [hg];exact Nat.ne_of_lt (blk_lt (g:=gb316) (o:=.cells #[.int .i64 a0_0,.int .i64 a0_1,.string a0_2,.slice A0_3 l0_3.length c0_3] 131 (0,0)) (by (with_reducible repeat first|refine zl_ ?_ _|refine zr_ ?_|refine zk_ ?_ _);exact BK316.out)) : gb316 ≠ gb317));have n6_:=zm_ ((by rw [hg];exact Nat.ne_of_gt (blk_lt (g:=gb316) (o:=.cells #[.int .i64 a0_0,.int .i64 a0_1,.string a0_2,.slice A0_3 l0_3.length c0_3] 131 (0,0)) (by (with_reducible repeat first|refine zl_ ?_ _|refine zr_ ?_|refine zk_ ?_ _);exact BK316.out)) : gb317 ≠ gb316));clear BK316;clear HB;have BK316:=n0_;have HB:=n1_;have BK317:=n2_;have GW317:=n3_;have GE317:=n4_;have NB316_317:=n5_;have NB317_316:=n6_;clear n0_ n1_ n2_ n3_ n4_ n5_ n6_;clear hb hbox hg;have hnb30:=NB316_317.out;have hnc30:=NB317_316.out;have hcz31_0 : w29.cell? ⟨gb316,0,none⟩ = some (.int .i64 a0_0):=(zc_ BK316.out 0).trans rfl;have hcz31_1 : w29.cell? ⟨gb316,1,none⟩ = some (.int .i64 a0_1):=(zc_ BK316.out 1).trans rfl;have hcz31_2 : w29.cell? ⟨gb316,2,none⟩ = some (.string a0_2):=(zc_ BK316.out 2).trans rfl;have hcz31_3 : w29.cell? ⟨gb316,3,none⟩ = some (.slice A0_3 l0_3.length c0_3):=(zc_ BK316.out 3).trans rfl;have hfz31_0:=zf_ BK316.out 0;have hfz31_1:=zf_ BK316.out 1;have hfz31_2:=zf_ BK316.out 2;have hfz31_3:=zf_ BK316.out 3;have hcz32_0 : w29.cell? ⟨gb317,0,none⟩ = some (.int .i64 a1_0):=(zc_ BK317.out 0).trans rfl;have hcz32_1 : w29.cell? ⟨gb317,1,none⟩ = some (.int .i64 a1_1):=(zc_ BK317.out 1).trans rfl;have hcz32_2 : w29.cell? ⟨gb317,2,none⟩ = some (.string a1_2):=(zc_ BK317.out 2).trans rfl;have hcz32_3 : w29.cell? ⟨gb317,3,none⟩ = some (.slice A1_3 l1_3.length c1_3):=(zc_ BK317.out 3).trans rfl;have hfz32_0:=zf_ BK317.out 0;have hfz32_1:=zf_ BK317.out 1;have hfz32_2:=zf_ BK317.out 2;have hfz32_3:=zf_ BK317.out 3))
  go_ret
  exact ⟨zE_,by repeat (first|(with_reducible first|exact HB.out|apply za_|apply zn_|apply zd_|refine zs_ ?_ GE316.out|refine zs_ ?_ GE317.out)|exact HB.out)⟩

def laws_eqExNodeS.l0 : Nat → List (S131) → List (S131) → Int → Option (Bool)
 |0,_,_,_ => none
 |k + 1,x0,x1,x5 => if x5 < (x0.length : Int) then (if 0 ≤ x5 then (if x5 < (x1.length : Int) then ((laws_eqExNode.f k ((rd_T131 x0 x5).f0) ((rd_T131 x0 x5).f1) ((rd_T131 x0 x5).f2) ((rd_T131 x0 x5).f3) ((rd_T131 x1 x5).f0) ((rd_T131 x1 x5).f1) ((rd_T131 x1 x5).f2) ((rd_T131 x1 x5).f3)).bind fun t321 => (if t321 = true then (laws_eqExNodeS.l0 k x0 x1 (wrap64 (x5 + 1))) else (some false))) else (none)) else (none)) else (some true)
def laws_eqExNodeS.f (k : Nat) (l0 : List (S131)) (l1 : List (S131)) : Option (Bool):=if (l0.length : Int) = (l1.length : Int) then (laws_eqExNodeS.l0 k l0 l1 0) else (some false)
theorem laws_eqExNodeS.mono_l : ∀ k,(∀ y0 y1 y2,LeO (laws_eqExNodeS.l0 k y0 y1 y2) (laws_eqExNodeS.l0 (k + 1) y0 y1 y2))
 |0 => fun _ _ _ r h => by simp [laws_eqExNodeS.l0] at h
 |k + 1 => by
  have ih0:=laws_eqExNodeS.mono_l k
  ·intro y0 y1 y2
   unfold laws_eqExNodeS.l0
   repeat' first
   |(with_reducible exact ih0 _ _ _)
   |(with_reducible exact laws_eqExNode.mono _ _ _ _ _ _ _ _ _)
   |(with_reducible exact LeO.refl _)
   |(with_reducible exact LeO.none _)
   |(with_reducible refine LeO.ite ?_ ?_)
   |(with_reducible refine LeO.bind ?_ (fun _ => ?_))
theorem laws_eqExNodeS.mono : ∀ a0 a1 k,LeO (laws_eqExNodeS.f k a0 a1) (laws_eqExNodeS.f (k + 1) a0 a1):=by
 intro a0 a1 k
 have ih0:=laws_eqExNodeS.mono_l k
 unfold laws_eqExNodeS.f
 repeat' first
   |(with_reducible exact ih0 _ _ _)
   |(with_reducible exact laws_eqExNode.mono _ _ _ _ _ _ _ _ _)
   |(with_reducible exact LeO.refl _)
   |(with_reducible exact LeO.none _)
   |(with_reducible refine LeO.ite ?_ ?_)
   |(with_reducible refine LeO.bind ?_ (fun _ => ?_))
def laws_eqExNodeS.T6 : Bool × List (List Nat × List Nat):=(true,[([],[]),([],[]),([0,1],[0,1]),([2],[2]),([],[]),([],[]),([4,5],[4,5]),([6],[6]),([3,7],[3,7]),([8],[8])])
def laws_eqExNodeS.B6 : List Nat:=[0,0,3,7,0,0,48,112,255,511]
theorem laws_eqExNodeS.tab6 : rtab .any (opsOf Try.f62 6) = laws_eqExNodeS.T6:=by kernel_rfl
theorem laws_eqExNodeS.bits6 : waitsOk laws_eqExNodeS.T6.2 laws_eqExNodeS.B6 = true:=by kernel_rfl
set_option maxHeartbeats 8000000 in
set_option maxRecDepth 100000 in
theorem laws_eqExNodeS.calls (k : Nat) (A0 : Option Addr) (c0 : Nat) (l0 : List (S131)) (A1 : Option Addr) (c1 : Nat) (l1 : List (S131)) (r : Bool) (w : World) (hr0 : Kd.C k131 w A0 l0.length l0) (hc0 : l0.length ≤ c0) (hr1 : Kd.C k131 w A1 l1.length l1) (hc1 : l1.length ≤ c1) (h : laws_eqExNodeS.f k l0 l1 = some r) :
  Calls Try.prog 62 #[.slice A0 l0.length c0,.slice A1 l1.length c1] w fun e w' => e = .returned (.bool r) ∧ Below w.heap.size w w':=by
 have hu131:=Try.underlying131
 have HR0:=zm_ hr0
 have HC0:=zm_ hc0
 clear hr0 hc0
 have HR1:=zm_ hr1
 have HC1:=zm_ hc1
 clear hr1 hc1
 have HB:=zm_ (Below.refl w.heap.size w)
 have H : (if (l0.length : Int) = (l1.length : Int) then (laws_eqExNodeS.l0 k l0 l1 0) else (some false)) = some r:=h
 clear h
 by_cases c3 : (l0.length : Int) = (l1.length : Int)
 ·rw [if_pos c3] at H
  have c3b0 : ((l0.length : Int) == (l1.length : Int)) = true:=beq_iff_eq.mpr c3
  have c3b1 : ((l0.length : Int) != (l1.length : Int)) = false:=bne_eq_false_iff_eq.mpr c3
  have c3b2 : (l0.length == l1.length) = true:=by first|simpa using c3|(simp at c3 ⊢;omega)
  clear c3
  have H':=zm_ H
  clear H
  go_enter Try.func62,Try.ntmps62
  go_wp2
  go_loopg [5] k (fun kq v5 w' => ∃ (x5_1 : Int),v5 = .int .i64 x5_1 ∧ Aside0 (laws_eqExNodeS.l0 kq l0 l1 x5_1 = some r) ∧ Aside0 (kq ≤ k) ∧ Aside0 (Below w.heap.size w w'))
  case atStart => exact ⟨(0),zV_,H',⟨Nat.le_refl _⟩,⟨by repeat (first|(with_reducible first|exact HB.out|apply za_|apply zn_|apply zd_)|exact HB.out)⟩⟩
  case round =>
   clear H'
   try clear c1
   try clear p2
   try clear c3
   try clear c3b0
   try clear c3b1
   try clear c3b2
   obtain ⟨x5_1,rfl,HA,HK1,HB⟩:=hrel
   cases gk with
   |zero => exact absurd HA.out (by simp [laws_eqExNodeS.l0])
   |succ k1 =>
    have H:=HA.out
    clear HA
    simp only [laws_eqExNodeS.l0] at H
    by_cases c4 : x5_1 < (l0.length : Int)
    ·rw [if_pos c4] at H
     have c4b0 : decide (x5_1 < (l0.length : Int)) = true:=decide_eq_true c4
     clear c4
     by_cases c5 : 0 ≤ x5_1
     ·rw [if_pos c5] at H
      have c5b0 : decide (0 ≤ x5_1) = true:=decide_eq_true c5
      clear c5
      by_cases c6 : x5_1 < (l1.length : Int)
      ·rw [if_pos c6] at H
       have c6b0 : decide (x5_1 < (l1.length : Int)) = true:=decide_eq_true c6
       clear c6
       replace H:=Option.bind_eq_some_iff.mp H
       obtain ⟨t321,A70,H⟩:=H
       replace H : (if t321 = true then (laws_eqExNodeS.l0 k1 l0 l1 (wrap64 (x5_1 + 1))) else (some false)) = some r:=H
       have A7:=zm_ A70
       clear A70
       by_cases c8 : t321 = true
       ·subst c8
        have H1 : (laws_eqExNodeS.l0 k1 l0 l1 (wrap64 (x5_1 + 1))) = some r:=by rw [if_pos rfl] at H;exact H
        clear H
        have H:=H1
        clear H1
        have H':=zm_ H
        clear H
        try go_wp2
        have n0_:=zm_ (zd_ HB.out)
        clear HB
        have HB:=n0_
        clear n0_
        have p319 : 0 ≤ (x5_1 : Int):=zo_
        have q319 : x5_1 < (l0.length : Int):=zo_
        obtain ⟨ad319,A319_3,c319_3,e319,hx319_0,hx319_1,hx319_2,hx319_3,hl319_3,hi319_3⟩:=at_T131 HR0.out x5_1 p319 q319
        have hw319_3:=hx319_3
        have hw319_2:=hx319_2
        have hw319_1:=hx319_1
        have hw319_0:=hx319_0
        cases e319
        replace hx319_0:=(HB.out.cell (zb_ w _ hx319_0)).trans hx319_0
        replace hx319_1:=(HB.out.cell (zb_ w _ hx319_1)).trans hx319_1
        replace hx319_2:=(HB.out.cell (zb_ w _ hx319_2)).trans hx319_2
        replace hx319_3:=(HB.out.cell (zb_ w _ hx319_3)).trans hx319_3
        have HR319_3:=zm_ hi319_3
        have HC319_3:=zm_ hl319_3
        clear hi319_3 hl319_3
        replace p319:=eq_true p319
        replace q319:=eq_true q319
        have p320 : 0 ≤ (x5_1 : Int):=zo_
        have q320 : x5_1 < (l1.length : Int):=zo_
        obtain ⟨ad320,A320_3,c320_3,e320,hx320_0,hx320_1,hx320_2,hx320_3,hl320_3,hi320_3⟩:=at_T131 HR1.out x5_1 p320 q320
        have hw320_3:=hx320_3
        have hw320_2:=hx320_2
        have hw320_1:=hx320_1
        have hw320_0:=hx320_0
        cases e320
        replace hx320_0:=(HB.out.cell (zb_ w _ hx320_0)).trans hx320_0
        replace hx320_1:=(HB.out.cell (zb_ w _ hx320_1)).trans hx320_1
        replace hx320_2:=(HB.out.cell (zb_ w _ hx320_2)).trans hx320_2
        replace hx320_3:=(HB.out.cell (zb_ w _ hx320_3)).trans hx320_3
        have HR320_3:=zm_ hi320_3
        have HC320_3:=zm_ hl320_3
        clear hi320_3 hl320_3
        replace p320:=eq_true p320
        replace q320:=eq_true q320
        refine start_ (n:=10) (S:=fun w' => w'.cell? (ad319.add ((x5_1).toNat * 4)) = some (.int .i64 ((rd_T131 l0 x5_1).f0)) ∧ w'.cell? ⟨(ad319.add ((x5_1).toNat * 4)).block,(ad319.add ((x5_1).toNat * 4)).off + 1,none⟩ = some (.int .i64 ((rd_T131 l0 x5_1).f1)) ∧ w'.cell? ⟨(ad319.add ((x5_1).toNat * 4)).block,(ad319.add ((x5_1).toNat * 4)).off + 2,none⟩ = some (.string ((rd_T131 l0 x5_1).f2)) ∧ w'.cell? ⟨(ad319.add ((x5_1).toNat * 4)).block,(ad319.add ((x5_1).toNat * 4)).off + 3,none⟩ = some (.slice A319_3 ((rd_T131 l0 x5_1).f3).length c319_3) ∧ w'.cell? (ad320.add ((x5_1).toNat * 4)) = some (.int .i64 ((rd_T131 l1 x5_1).f0)) ∧ w'.cell? ⟨(ad320.add ((x5_1).toNat * 4)).block,(ad320.add ((x5_1).toNat * 4)).off + 1,none⟩ = some (.int .i64 ((rd_T131 l1 x5_1).f1)) ∧ w'.cell? ⟨(ad320.add ((x5_1).toNat * 4)).block,(ad320.add ((x5_1).toNat * 4)).off + 2,none⟩ = some (.string ((rd_T131 l1 x5_1).f2)) ∧ w'.cell? ⟨(ad320.add ((x5_1).toNat * 4)).block,(ad320.add ((x5_1).toNat * 4)).off + 3,none⟩ = some (.slice A320_3 ((rd_T131 l1 x5_1).f3).length c320_3)) (ds:=[]) #[false,false,false,false,false,false,false,false,false,false] (by kernel_rfl) rfl rfl ⟨((HB.out.cell (zb_ w _ hw319_0)).trans hw319_0),((HB.out.cell (zb_ w _ hw319_1)).trans hw319_1),((HB.out.cell (zb_ w _ hw319_2)).trans hw319_2),((HB.out.cell (zb_ w _ hw319_3)).trans hw319_3),((HB.out.cell (zb_ w _ hw320_0)).trans hw320_0),((HB.out.cell (zb_ w _ hw320_1)).trans hw320_1),((HB.out.cell (zb_ w _ hw320_2)).trans hw320_2),((HB.out.cell (zb_ w _ hw320_3)).trans hw320_3)⟩ (fun hHeld => ?_);refine with_tabW laws_eqExNodeS.tab6 laws_eqExNodeS.bits6 (fun HT_ HW_ => ?_)
        generalize wr.drew = w9 at HB HR319_3 HR320_3 hx319_0 hx319_1 hx319_2 hx319_3 hx320_0 hx320_1 hx320_2 hx320_3 hHeld ⊢
        refine pure_ (i:=0) (N:=some 17) (v:=?_) (a':=?_) #[true,false,false,false,false,false,false,false,false,false] rfl rfl (any_of HT_.out (by kernel_rfl)) (fun _ _ _ h => h) (Or.inl ⟨by rfl,?_⟩) ?_ ?_
        rotate_left
        ·intro w'
         go_simp
         with_reducible rfl
        rotate_left
        ·simp only [Act.put,List.setIfInBounds_toArray,List.set_cons_zero,List.set_cons_succ,i64_w,i32_w,IntKind.wrap_u8]
         rfl
        refine pure_ (i:=1) (N:=some 18) (v:=?_) (a':=?_) #[true,true,false,false,false,false,false,false,false,false] rfl rfl (any_of HT_.out (by kernel_rfl)) (fun _ _ _ h => h) (Or.inl ⟨by rfl,?_⟩) ?_ ?_
        rotate_left
        ·intro w'
         go_simp
         with_reducible rfl
        rotate_left
        ·simp only [Act.put,List.setIfInBounds_toArray,List.set_cons_zero,List.set_cons_succ,i64_w,i32_w,IntKind.wrap_u8]
         rfl
        refine pure_ (i:=2) (N:=some 19) (v:=?_) (a':=?_) #[true,true,true,false,false,false,false,false,false,false] rfl rfl (any_of HT_.out (by kernel_rfl)) (fun _ _ _ h => h) (Or.inl ⟨by rfl,?_⟩) ?_ ?_
        rotate_left
        ·intro w'
         go_simp
         with_reducible rfl
        rotate_left
        ·simp only [Act.put,List.setIfInBounds_toArray,List.set_cons_zero,List.set_cons_succ,i64_w,i32_w,IntKind.wrap_u8]
         rfl
        refine pure_ (i:=4) (N:=some 21) (v:=?_) (a':=?_) #[true,true,true,false,true,false,false,false,false,false] rfl rfl (any_of HT_.out (by kernel_rfl)) (fun _ _ _ h => h) (Or.inl ⟨by rfl,?_⟩) ?_ ?_
        rotate_left
        ·intro w'
         go_simp
         with_reducible rfl
        rotate_left
        ·simp only [Act.put,List.setIfInBounds_toArray,List.set_cons_zero,List.set_cons_succ,i64_w,i32_w,IntKind.wrap_u8]
         rfl
        refine pure_ (i:=5) (N:=some 22) (v:=?_) (a':=?_) #[true,true,true,false,true,true,false,false,false,false] rfl rfl (any_of HT_.out (by kernel_rfl)) (fun _ _ _ h => h) (Or.inl ⟨by rfl,?_⟩) ?_ ?_
        rotate_left
        ·intro w'
         go_simp
         with_reducible rfl
        rotate_left
        ·simp only [Act.put,List.setIfInBounds_toArray,List.set_cons_zero,List.set_cons_succ,i64_w,i32_w,IntKind.wrap_u8]
         rfl
        refine pure_ (i:=6) (N:=some 23) (v:=?_) (a':=?_) #[true,true,true,false,true,true,true,false,false,false] rfl rfl (any_of HT_.out (by kernel_rfl)) (fun _ _ _ h => h) (Or.inl ⟨by rfl,?_⟩) ?_ ?_
        rotate_left
        ·intro w'
         go_simp
         with_reducible rfl
        rotate_left
        ·simp only [Act.put,List.setIfInBounds_toArray,List.set_cons_zero,List.set_cons_succ,i64_w,i32_w,IntKind.wrap_u8]
         rfl
        refine take_ (i:=3) (N:=some 20) (v:=?_) (a':=?_) #[true,true,true,true,true,true,true,false,false,false] rfl rfl (take_ofW HT_.out HW_.out (by kernel_rfl)) (fun _ _ _ h => h) (Or.inl ⟨by rfl,?_⟩) hHeld ?_ ?_
        rotate_left
        ·rintro w' ⟨s0,s1,s2,s3,s4,s5,s6,s7⟩
         go_simp
         with_reducible rfl
        rotate_left
        ·simp only [Act.put,List.setIfInBounds_toArray,List.set_cons_zero,List.set_cons_succ,i64_w,i32_w,IntKind.wrap_u8]
         rfl
        refine take_ (i:=7) (N:=some 24) (v:=?_) (a':=?_) #[true,true,true,true,true,true,true,true,false,false] rfl rfl (take_ofW HT_.out HW_.out (by kernel_rfl)) (fun _ _ _ h => h) (Or.inl ⟨by rfl,?_⟩) hHeld ?_ ?_
        rotate_left
        ·rintro w' ⟨s0,s1,s2,s3,s4,s5,s6,s7⟩
         go_simp
         with_reducible rfl
        rotate_left
        ·simp only [Act.put,List.setIfInBounds_toArray,List.set_cons_zero,List.set_cons_succ,i64_w,i32_w,IntKind.wrap_u8]
         rfl
        refine one_ (i:=8) (N:=some 25) #[true,true,true,true,true,true,true,true,true,false] rfl rfl (one_of HT_.out (by kernel_rfl)) (by decide) (fun K hK => ?_)
        refine goes_ Try.func65 (by kernel_rfl) rfl #[.agg #[.int .i64 ((rd_T131 l0 x5_1).f0),.int .i64 ((rd_T131 l0 x5_1).f1),.string ((rd_T131 l0 x5_1).f2),.slice A319_3 ((rd_T131 l0 x5_1).f3).length c319_3],.agg #[.int .i64 ((rd_T131 l1 x5_1).f0),.int .i64 ((rd_T131 l1 x5_1).f1),.string ((rd_T131 l1 x5_1).f2),.slice A320_3 ((rd_T131 l1 x5_1).f3).length c320_3]] (by rfl) rfl rfl zq_ ?_
        with_reducible refine (laws_eqExNode.calls k1 ((rd_T131 l0 x5_1).f0) ((rd_T131 l0 x5_1).f1) ((rd_T131 l0 x5_1).f2) _ _ ((rd_T131 l0 x5_1).f3) ((rd_T131 l1 x5_1).f0) ((rd_T131 l1 x5_1).f1) ((rd_T131 l1 x5_1).f2) _ _ ((rd_T131 l1 x5_1).f3) true _ ?side1 ?side2 ?side3 ?side4 A7.out).mono ?_
        (case side1 => repeat (first|exact (Kd.C_below HR319_3.out HB.out)|(with_reducible refine Kd.C_alloc ?_ _)|(with_reducible refine Kd.C_drewN ?_ _)|(with_reducible refine Kd.C_drew ?_)))
        (case side2 => exact HC319_3.out)
        (case side3 => repeat (first|exact (Kd.C_below HR320_3.out HB.out)|(with_reducible refine Kd.C_alloc ?_ _)|(with_reducible refine Kd.C_drewN ?_ _)|(with_reducible refine Kd.C_drew ?_)))
        (case side4 => exact HC320_3.out)
        rintro e w10 ⟨rfl,hb⟩
        refine ⟨_,rfl,?_⟩
        have n0_:=zm_ (below_step zB_ hb)
        clear HB
        have HB:=n0_
        clear n0_
        (try clear hb)
        (try clear hb2)
        (try clear hk)
        (try clear hi)
        refine hK.out _ _ ⟨((HB.out.cell (zb_ w _ hw319_0)).trans hw319_0),((HB.out.cell (zb_ w _ hw319_1)).trans hw319_1),((HB.out.cell (zb_ w _ hw319_2)).trans hw319_2),((HB.out.cell (zb_ w _ hw319_3)).trans hw319_3),((HB.out.cell (zb_ w _ hw320_0)).trans hw320_0),((HB.out.cell (zb_ w _ hw320_1)).trans hw320_1),((HB.out.cell (zb_ w _ hw320_2)).trans hw320_2),((HB.out.cell (zb_ w _ hw320_3)).trans hw320_3)⟩ (fun hHeld => ?_)
        clear hK K
        refine norm_ (a':=?_) ?_ ?_
        rotate_left
        ·show Act.put _ (some 25) _ = _
         simp only [Act.put,List.setIfInBounds_toArray,List.set_cons_zero,List.set_cons_succ,i64_w,i32_w,IntKind.wrap_u8]
         rfl
        refine pure_ (i:=9) (N:=some 26) (v:=?_) (a':=?_) #[true,true,true,true,true,true,true,true,true,true] rfl rfl (any_of HT_.out (by kernel_rfl)) (fun _ _ _ h => h) (Or.inl ⟨by rfl,?_⟩) ?_ ?_
        rotate_left
        ·intro w'
         go_simp
         with_reducible rfl
        rotate_left
        ·simp only [Act.put,List.setIfInBounds_toArray,List.set_cons_zero,List.set_cons_succ,i64_w,i32_w,IntKind.wrap_u8]
         rfl
        refine done_ (done_of HT_.out (by kernel_rfl)) ?_
        try go_wp2
        go_roundg k1
        case measure => have:=HK1.out;omega
        case rel => exact ⟨(wrap64 (x5_1 + 1)),zV_,H',⟨by have:=HK1.out;omega⟩,⟨by repeat (first|(with_reducible first|exact HB.out|apply za_|apply zn_|apply zd_)|exact HB.out)⟩⟩
       ·replace c8:=Bool.eq_false_iff.mpr c8
        subst c8
        have H1 : (some false) = some r:=by rw [if_neg (show ¬ (false = true) by decide)] at H;exact H
        clear H
        have H:=H1
        clear H1
        obtain rfl:=Option.some.inj H
        try go_wp2
        have n0_:=zm_ (zd_ HB.out)
        clear HB
        have HB:=n0_
        clear n0_
        have p319 : 0 ≤ (x5_1 : Int):=zo_
        have q319 : x5_1 < (l0.length : Int):=zo_
        obtain ⟨ad319,A319_3,c319_3,e319,hx319_0,hx319_1,hx319_2,hx319_3,hl319_3,hi319_3⟩:=at_T131 HR0.out x5_1 p319 q319
        have hw319_3:=hx319_3
        have hw319_2:=hx319_2
        have hw319_1:=hx319_1
        have hw319_0:=hx319_0
        cases e319
        replace hx319_0:=(HB.out.cell (zb_ w _ hx319_0)).trans hx319_0
        replace hx319_1:=(HB.out.cell (zb_ w _ hx319_1)).trans hx319_1
        replace hx319_2:=(HB.out.cell (zb_ w _ hx319_2)).trans hx319_2
        replace hx319_3:=(HB.out.cell (zb_ w _ hx319_3)).trans hx319_3
        have HR319_3:=zm_ hi319_3
        have HC319_3:=zm_ hl319_3
        clear hi319_3 hl319_3
        replace p319:=eq_true p319
        replace q319:=eq_true q319
        have p320 : 0 ≤ (x5_1 : Int):=zo_
        have q320 : x5_1 < (l1.length : Int):=zo_
        obtain ⟨ad320,A320_3,c320_3,e320,hx320_0,hx320_1,hx320_2,hx320_3,hl320_3,hi320_3⟩:=at_T131 HR1.out x5_1 p320 q320
        have hw320_3:=hx320_3
        have hw320_2:=hx320_2
        have hw320_1:=hx320_1
        have hw320_0:=hx320_0
        cases e320
        replace hx320_0:=(HB.out.cell (zb_ w _ hx320_0)).trans hx320_0
        replace hx320_1:=(HB.out.cell (zb_ w _ hx320_1)).trans hx320_1
        replace hx320_2:=(HB.out.cell (zb_ w _ hx320_2)).trans hx320_2
        replace hx320_3:=(HB.out.cell (zb_ w _ hx320_3)).trans hx320_3
        have HR320_3:=zm_ hi320_3
        have HC320_3:=zm_ hl320_3
        clear hi320_3 hl320_3
        replace p320:=eq_true p320
        replace q320:=eq_true q320
        refine start_ (n:=10) (S:=fun w' => w'.cell? (ad319.add ((x5_1).toNat * 4)) = some (.int .i64 ((rd_T131 l0 x5_1).f0)) ∧ w'.cell? ⟨(ad319.add ((x5_1).toNat * 4)).block,(ad319.add ((x5_1).toNat * 4)).off + 1,none⟩ = some (.int .i64 ((rd_T131 l0 x5_1).f1)) ∧ w'.cell? ⟨(ad319.add ((x5_1).toNat * 4)).block,(ad319.add ((x5_1).toNat * 4)).off + 2,none⟩ = some (.string ((rd_T131 l0 x5_1).f2)) ∧ w'.cell? ⟨(ad319.add ((x5_1).toNat * 4)).block,(ad319.add ((x5_1).toNat * 4)).off + 3,none⟩ = some (.slice A319_3 ((rd_T131 l0 x5_1).f3).length c319_3) ∧ w'.cell? (ad320.add ((x5_1).toNat * 4)) = some (.int .i64 ((rd_T131 l1 x5_1).f0)) ∧ w'.cell? ⟨(ad320.add ((x5_1).toNat * 4)).block,(ad320.add ((x5_1).toNat * 4)).off + 1,none⟩ = some (.int .i64 ((rd_T131 l1 x5_1).f1)) ∧ w'.cell? ⟨(ad320.add ((x5_1).toNat * 4)).block,(ad320.add ((x5_1).toNat * 4)).off + 2,none⟩ = some (.string ((rd_T131 l1 x5_1).f2)) ∧ w'.cell? ⟨(ad320.add ((x5_1).toNat * 4)).block,(ad320.add ((x5_1).toNat * 4)).off + 3,none⟩ = some (.slice A320_3 ((rd_T131 l1 x5_1).f3).length c320_3)) (ds:=[]) #[false,false,false,false,false,false,false,false,false,false] (by kernel_rfl) rfl rfl ⟨((HB.out.cell (zb_ w _ hw319_0)).trans hw319_0),((HB.out.cell (zb_ w _ hw319_1)).trans hw319_1),((HB.out.cell (zb_ w _ hw319_2)).trans hw319_2),((HB.out.cell (zb_ w _ hw319_3)).trans hw319_3),((HB.out.cell (zb_ w _ hw320_0)).trans hw320_0),((HB.out.cell (zb_ w _ hw320_1)).trans hw320_1),((HB.out.cell (zb_ w _ hw320_2)).trans hw320_2),((HB.out.cell (zb_ w _ hw320_3)).trans hw320_3)⟩ (fun hHeld => ?_);refine with_tabW laws_eqExNodeS.tab6 laws_eqExNodeS.bits6 (fun HT_ HW_ => ?_)
        generalize wr.drew = w11 at HB HR319_3 HR320_3 hx319_0 hx319_1 hx319_2 hx319_3 hx320_0 hx320_1 hx320_2 hx320_3 hHeld ⊢
        refine pure_ (i:=0) (N:=some 17) (v:=?_) (a':=?_) #[true,false,false,false,false,false,false,false,false,false] rfl rfl (any_of HT_.out (by kernel_rfl)) (fun _ _ _ h => h) (Or.inl ⟨by rfl,?_⟩) ?_ ?_
        rotate_left
        ·intro w'
         go_simp
         with_reducible rfl
        rotate_left
        ·simp only [Act.put,List.setIfInBounds_toArray,List.set_cons_zero,List.set_cons_succ,i64_w,i32_w,IntKind.wrap_u8]
         rfl
        refine pure_ (i:=1) (N:=some 18) (v:=?_) (a':=?_) #[true,true,false,false,false,false,false,false,false,false] rfl rfl (any_of HT_.out (by kernel_rfl)) (fun _ _ _ h => h) (Or.inl ⟨by rfl,?_⟩) ?_ ?_
        rotate_left
        ·intro w'
         go_simp
         with_reducible rfl
        rotate_left
        ·simp only [Act.put,List.setIfInBounds_toArray,List.set_cons_zero,List.set_cons_succ,i64_w,i32_w,IntKind.wrap_u8]
         rfl
        refine pure_ (i:=2) (N:=some 19) (v:=?_) (a':=?_) #[true,true,true,false,false,false,false,false,false,false] rfl rfl (any_of HT_.out (by kernel_rfl)) (fun _ _ _ h => h) (Or.inl ⟨by rfl,?_⟩) ?_ ?_
        rotate_left
        ·intro w'
         go_simp
         with_reducible rfl
        rotate_left
        ·simp only [Act.put,List.setIfInBounds_toArray,List.set_cons_zero,List.set_cons_succ,i64_w,i32_w,IntKind.wrap_u8]
         rfl
        refine pure_ (i:=4) (N:=some 21) (v:=?_) (a':=?_) #[true,true,true,false,true,false,false,false,false,false] rfl rfl (any_of HT_.out (by kernel_rfl)) (fun _ _ _ h => h) (Or.inl ⟨by rfl,?_⟩) ?_ ?_
        rotate_left
        ·intro w'
         go_simp
         with_reducible rfl
        rotate_left
        ·simp only [Act.put,List.setIfInBounds_toArray,List.set_cons_zero,List.set_cons_succ,i64_w,i32_w,IntKind.wrap_u8]
         rfl
        refine pure_ (i:=5) (N:=some 22) (v:=?_) (a':=?_) #[true,true,true,false,true,true,false,false,false,false] rfl rfl (any_of HT_.out (by kernel_rfl)) (fun _ _ _ h => h) (Or.inl ⟨by rfl,?_⟩) ?_ ?_
        rotate_left
        ·intro w'
         go_simp
         with_reducible rfl
        rotate_left
        ·simp only [Act.put,List.setIfInBounds_toArray,List.set_cons_zero,List.set_cons_succ,i64_w,i32_w,IntKind.wrap_u8]
         rfl
        refine pure_ (i:=6) (N:=some 23) (v:=?_) (a':=?_) #[true,true,true,false,true,true,true,false,false,false] rfl rfl (any_of HT_.out (by kernel_rfl)) (fun _ _ _ h => h) (Or.inl ⟨by rfl,?_⟩) ?_ ?_
        rotate_left
        ·intro w'
         go_simp
         with_reducible rfl
        rotate_left
        ·simp only [Act.put,List.setIfInBounds_toArray,List.set_cons_zero,List.set_cons_succ,i64_w,i32_w,IntKind.wrap_u8]
         rfl
        refine take_ (i:=3) (N:=some 20) (v:=?_) (a':=?_) #[true,true,true,true,true,true,true,false,false,false] rfl rfl (take_ofW HT_.out HW_.out (by kernel_rfl)) (fun _ _ _ h => h) (Or.inl ⟨by rfl,?_⟩) hHeld ?_ ?_
        rotate_left
        ·rintro w' ⟨s0,s1,s2,s3,s4,s5,s6,s7⟩
         go_simp
         with_reducible rfl
        rotate_left
        ·simp only [Act.put,List.setIfInBounds_toArray,List.set_cons_zero,List.set_cons_succ,i64_w,i32_w,IntKind.wrap_u8]
         rfl
        refine take_ (i:=7) (N:=some 24) (v:=?_) (a':=?_) #[true,true,true,true,true,true,true,true,false,false] rfl rfl (take_ofW HT_.out HW_.out (by kernel_rfl)) (fun _ _ _ h => h) (Or.inl ⟨by rfl,?_⟩) hHeld ?_ ?_
        rotate_left
        ·rintro w' ⟨s0,s1,s2,s3,s4,s5,s6,s7⟩
         go_simp
         with_reducible rfl
        rotate_left
        ·simp only [Act.put,List.setIfInBounds_toArray,List.set_cons_zero,List.set_cons_succ,i64_w,i32_w,IntKind.wrap_u8]
         rfl
        refine one_ (i:=8) (N:=some 25) #[true,true,true,true,true,true,true,true,true,false] rfl rfl (one_of HT_.out (by kernel_rfl)) (by decide) (fun K hK => ?_)
        refine goes_ Try.func65 (by kernel_rfl) rfl #[.agg #[.int .i64 ((rd_T131 l0 x5_1).f0),.int .i64 ((rd_T131 l0 x5_1).f1),.string ((rd_T131 l0 x5_1).f2),.slice A319_3 ((rd_T131 l0 x5_1).f3).length c319_3],.agg #[.int .i64 ((rd_T131 l1 x5_1).f0),.int .i64 ((rd_T131 l1 x5_1).f1),.string ((rd_T131 l1 x5_1).f2),.slice A320_3 ((rd_T131 l1 x5_1).f3).length c320_3]] (by rfl) rfl rfl zq_ ?_
        with_reducible refine (laws_eqExNode.calls k1 ((rd_T131 l0 x5_1).f0) ((rd_T131 l0 x5_1).f1) ((rd_T131 l0 x5_1).f2) _ _ ((rd_T131 l0 x5_1).f3) ((rd_T131 l1 x5_1).f0) ((rd_T131 l1 x5_1).f1) ((rd_T131 l1 x5_1).f2) _ _ ((rd_T131 l1 x5_1).f3) false _ ?side1 ?side2 ?side3 ?side4 A7.out).mono ?_
        (case side1 => repeat (first|exact (Kd.C_below HR319_3.out HB.out)|(with_reducible refine Kd.C_alloc ?_ _)|(with_reducible refine Kd.C_drewN ?_ _)|(with_reducible refine Kd.C_drew ?_)))
        (case side2 => exact HC319_3.out)
        (case side3 => repeat (first|exact (Kd.C_below HR320_3.out HB.out)|(with_reducible refine Kd.C_alloc ?_ _)|(with_reducible refine Kd.C_drewN ?_ _)|(with_reducible refine Kd.C_drew ?_)))
        (case side4 => exact HC320_3.out)
        rintro e w12 ⟨rfl,hb⟩
        refine ⟨_,rfl,?_⟩
        have n0_:=zm_ (below_step zB_ hb)
        clear HB
        have HB:=n0_
        clear n0_
        (try clear hb)
        (try clear hb2)
        (try clear hk)
        (try clear hi)
        refine hK.out _ _ ⟨((HB.out.cell (zb_ w _ hw319_0)).trans hw319_0),((HB.out.cell (zb_ w _ hw319_1)).trans hw319_1),((HB.out.cell (zb_ w _ hw319_2)).trans hw319_2),((HB.out.cell (zb_ w _ hw319_3)).trans hw319_3),((HB.out.cell (zb_ w _ hw320_0)).trans hw320_0),((HB.out.cell (zb_ w _ hw320_1)).trans hw320_1),((HB.out.cell (zb_ w _ hw320_2)).trans hw320_2),((HB.out.cell (zb_ w _ hw320_3)).trans hw320_3)⟩ (fun hHeld => ?_)
        clear hK K
        refine norm_ (a':=?_) ?_ ?_
        rotate_left
        ·show Act.put _ (some 25) _ = _
         simp only [Act.put,List.setIfInBounds_toArray,List.set_cons_zero,List.set_cons_succ,i64_w,i32_w,IntKind.wrap_u8]
         rfl
        refine pure_ (i:=9) (N:=some 26) (v:=?_) (a':=?_) #[true,true,true,true,true,true,true,true,true,true] rfl rfl (any_of HT_.out (by kernel_rfl)) (fun _ _ _ h => h) (Or.inl ⟨by rfl,?_⟩) ?_ ?_
        rotate_left
        ·intro w'
         go_simp
         with_reducible rfl
        rotate_left
        ·simp only [Act.put,List.setIfInBounds_toArray,List.set_cons_zero,List.set_cons_succ,i64_w,i32_w,IntKind.wrap_u8]
         rfl
        refine done_ (done_of HT_.out (by kernel_rfl)) ?_
        try go_wp2
        go_ret
        exact ⟨zE_,by repeat (first|(with_reducible first|exact HB.out|apply za_|apply zn_|apply zd_)|exact HB.out)⟩
      ·rw [if_neg c6] at H
       exact absurd H (by simp)
     ·rw [if_neg c5] at H
      exact absurd H (by simp)
    ·rw [if_neg c4] at H
     have c4b0 : decide (x5_1 < (l0.length : Int)) = false:=decide_eq_false c4
     clear c4
     obtain rfl:=Option.some.inj H
     go_wp2
     go_ret
     exact ⟨zE_,by repeat (first|(with_reducible first|exact HB.out|apply za_|apply zn_|apply zd_)|exact HB.out)⟩
 ·rw [if_neg c3] at H
  have c3b0 : ((l0.length : Int) == (l1.length : Int)) = false:=beq_eq_false_iff_ne.mpr c3
  have c3b1 : ((l0.length : Int) != (l1.length : Int)) = true:=bne_iff_ne.mpr c3
  have c3b2 : (l0.length == l1.length) = false:=by first|simpa using c3|(simp at c3 ⊢;omega)
  obtain rfl:=Option.some.inj H
  go_enter Try.func62,Try.ntmps62
  go_wp2
  go_ret
  exact ⟨zE_,by repeat (first|(with_reducible first|exact HB.out|apply za_|apply zn_|apply zd_)|exact HB.out)⟩

def laws_eqExpr.f (k : Nat) (l0_0 : List (S131)) (l1_0 : List (S131)) : Option (Bool):=(laws_eqExNodeS.f k l0_0 l1_0).bind fun t324 => (if t324 = true then (some true) else (some false))
theorem laws_eqExpr.mono : ∀ a0 a1 k,LeO (laws_eqExpr.f k a0 a1) (laws_eqExpr.f (k + 1) a0 a1):=by
 intro a0 a1 k
 unfold laws_eqExpr.f
 repeat' first
   |(with_reducible exact laws_eqExNodeS.mono _ _ _)
   |(with_reducible exact LeO.refl _)
   |(with_reducible exact LeO.none _)
   |(with_reducible refine LeO.ite ?_ ?_)
   |(with_reducible refine LeO.bind ?_ (fun _ => ?_))
set_option maxHeartbeats 8000000 in
set_option maxRecDepth 100000 in
theorem laws_eqExpr.calls (k : Nat) (A0_0 : Option Addr) (c0_0 : Nat) (l0_0 : List (S131)) (A1_0 : Option Addr) (c1_0 : Nat) (l1_0 : List (S131)) (r : Bool) (w : World) (hr0_0 : Kd.C k131 w A0_0 l0_0.length l0_0) (hc0_0 : l0_0.length ≤ c0_0) (hr1_0 : Kd.C k131 w A1_0 l1_0.length l1_0) (hc1_0 : l1_0.length ≤ c1_0) (h : laws_eqExpr.f k l0_0 l1_0 = some r) :
  Calls Try.prog 59 #[.agg #[.slice A0_0 l0_0.length c0_0],.agg #[.slice A1_0 l1_0.length c1_0]] w fun e w' => e = .returned (.bool r) ∧ Below w.heap.size w w':=by
 have hu122:=Try.underlying122
 have HR0_0:=zm_ hr0_0
 have HC0_0:=zm_ hc0_0
 clear hr0_0 hc0_0
 have HR1_0:=zm_ hr1_0
 have HC1_0:=zm_ hc1_0
 clear hr1_0 hc1_0
 have HB:=zm_ (Below.refl w.heap.size w)
 have H : ((laws_eqExNodeS.f k l0_0 l1_0).bind fun t324 => (if t324 = true then (some true) else (some false))) = some r:=h
 clear h
 replace H:=Option.bind_eq_some_iff.mp H
 obtain ⟨t324,A30,H⟩:=H
 replace H : (if t324 = true then (some true) else (some false)) = some r:=H
 have A3:=zm_ A30
 clear A30
 by_cases c4 : t324 = true
 ·subst c4
  have H1 : (some true) = some r:=by rw [if_pos rfl] at H;exact H
  clear H
  have H:=H1
  clear H1
  obtain rfl:=Option.some.inj H
  go_enter Try.func59,Try.ntmps59
  go_wp2_with (first|((with_reducible refine gate_dst (N:=2) rfl ?_);refine box_event ?hg (N:=2) ?hd (cs:=#[.slice A0_0 l0_0.length c0_0]) (t:=122) ?hr ?_;(case hd => rfl);(case hg => rfl);(case hr => first|(go_simp;done)|(go_simp;rfl));intro gb322 hg w5 hbox hb;have n0_:=zm_ (below_step zB_ hb);have n1_:=zm_ (hbox);have n2_:=zm_ ((by rw [hg];exact (below_size zB_) : w.heap.size ≤ gb322));have n3_:=zm_ ((by rw [hg];exact (below_size zB_) : w.heap.size ≤ gb322));clear HB;have HB:=n0_;have BK322:=n1_;have GW322:=n2_;have GE322:=n3_;clear n0_ n1_ n2_ n3_;clear hb hbox hg)|((with_reducible refine gate_dst (N:=3) rfl ?_);refine box_event ?hg (N:=3) ?hd (cs:=#[.slice A1_0 l1_0.length c1_0]) (t:=122) ?hr ?_;(case hd => rfl);(case hg => rfl);(case hr => first|(go_simp;done)|(go_simp;rfl));intro gb323 hg w6 hbox hb;have n0_:=zm_ (blk_below (g:=gb322) (o:=.cells #[.slice A0_0 l0_0.length c0_0] 122 (0,0)) (by (with_reducible repeat first|refine zl_ ?_ _|refine zr_ ?_|refine zk_ ?_ _);exact BK322.out) hb);have n1_:=zm_ (below_step (by repeat (first|(with_reducible first|exact HB.out|apply za_|apply zn_|apply zd_|refine zs_ ?_ GE322.out)|exact HB.out)) hb);have n2_:=zm_ (hbox);have n3_:=zm_ ((by rw [hg];exact (below_size (by repeat (first|(with_reducible first|exact HB.out|apply za_|apply zn_|apply zd_|refine zs_ ?_ GE322.out)|exact HB.out))) : w.heap.size ≤ gb323));have n4_:=zm_ ((by rw [hg];exact (below_size (by repeat (first|(with_reducible first|exact HB.out|apply za_|apply zn_|apply zd_|refine zs_ ?_ GE322.out)|exact HB.out))) : w.heap.size ≤ gb323));have n5_:=zm_ ((by rw [hg];exact Nat.ne_of_lt (blk_lt (g:=gb322) (o:=.cells #[.slice A0_0 l0_0.length c0_0] 122 (0,0)) (by (with_reducible repeat first|refine zl_ ?_ _|refine zr_ ?_|refine zk_ ?_ _);exact BK322.out)) : gb322 ≠ gb323));have n6_:=zm_ ((by rw [hg];exact Nat.ne_of_gt (blk_lt (g:=gb322) (o:=.cells #[.slice A0_0 l0_0.length c0_0] 122 (0,0)) (by (with_reducible repeat first|refine zl_ ?_ _|refine zr_ ?_|refine zk_ ?_ _);exact BK322.out)) : gb323 ≠ gb322));clear BK322;clear HB;have BK322:=n0_;have HB:=n1_;have BK323:=n2_;have GW323:=n3_;have GE323:=n4_;have NB322_323:=n5_;have NB323_322:=n6_;clear n0_ n1_ n2_ n3_ n4_ n5_ n6_;clear hb hbox hg;have hnb7:=NB322_323.out;have hnc7:=NB323_322.out;have hcz8_0 : w6.cell? ⟨gb322,0,none⟩ = some (.slice A0_0 l0_0.length c0_0):=(zc_ BK322.out 0).trans rfl;have hfz8_0:=zf_ BK322.out 0;have hcz9_0 : w6.cell? ⟨gb323,0,none⟩ = some (.slice A1_0 l1_0.length c1_0):=(zc_ BK323.out 0).trans rfl;have hfz9_0:=zf_ BK323.out 0)|((with_reducible refine gate_callee (f:=62) rfl ?_);refine goesL_ (some 9) rfl rfl Try.func62 (by kernel_rfl) rfl #[.slice A0_0 l0_0.length c0_0,.slice A1_0 l1_0.length c1_0] rfl zq_ ?_;(with_reducible refine (laws_eqExNodeS.calls k _ _ l0_0 _ _ l1_0 true _ ?side1 ?side2 ?side3 ?side4 A3.out).mono ?_);(case side1 => repeat (first|exact (Kd.C_below HR0_0.out HB.out)|(with_reducible refine Kd.C_alloc ?_ _)|(with_reducible refine Kd.C_drewN ?_ _)|(with_reducible refine Kd.C_drew ?_)));(case side2 => exact HC0_0.out);(case side3 => repeat (first|exact (Kd.C_below HR1_0.out HB.out)|(with_reducible refine Kd.C_alloc ?_ _)|(with_reducible refine Kd.C_drewN ?_ _)|(with_reducible refine Kd.C_drew ?_)));(case side4 => exact HC1_0.out);rintro e w10 ⟨rfl,hb⟩;refine ⟨_,rfl,?_⟩;have n0_:=zm_ (blk_below (g:=gb322) (o:=.cells #[.slice A0_0 l0_0.length c0_0] 122 (0,0)) (by (with_reducible repeat first|refine zl_ ?_ _|refine zr_ ?_|refine zk_ ?_ _);exact BK322.out) hb);have n1_:=zm_ (blk_below (g:=gb323) (o:=.cells #[.slice A1_0 l1_0.length c1_0] 122 (0,0)) (by (with_reducible repeat first|refine zl_ ?_ _|refine zr_ ?_|refine zk_ ?_ _);exact BK323.out) hb);have n2_:=zm_ (below_step (by repeat (first|(with_reducible first|exact HB.out|apply za_|apply zn_|apply zd_|refine zs_ ?_ GE322.out|refine zs_ ?_ GE323.out)|exact HB.out)) hb);clear BK322;clear BK323;clear HB;have BK322:=n0_;have BK323:=n1_;have HB:=n2_;clear n0_ n1_ n2_;(try clear hb)))
  go_ret
  exact ⟨zE_,by repeat (first|(with_reducible first|exact HB.out|apply za_|apply zn_|apply zd_|refine zs_ ?_ GE322.out|refine zs_ ?_ GE323.out)|exact HB.out)⟩
 ·replace c4:=Bool.eq_false_iff.mpr c4
  subst c4
  have H1 : (some false) = some r:=by rw [if_neg (show ¬ (false = true) by decide)] at H;exact H
  clear H
  have H:=H1
  clear H1
  obtain rfl:=Option.some.inj H
  go_enter Try.func59,Try.ntmps59
  go_wp2_with (first|((with_reducible refine gate_dst (N:=2) rfl ?_);refine box_event ?hg (N:=2) ?hd (cs:=#[.slice A0_0 l0_0.length c0_0]) (t:=122) ?hr ?_;(case hd => rfl);(case hg => rfl);(case hr => first|(go_simp;done)|(go_simp;rfl));intro gb322 hg w11 hbox hb;have n0_:=zm_ (below_step zB_ hb);have n1_:=zm_ (hbox);have n2_:=zm_ ((by rw [hg];exact (below_size zB_) : w.heap.size ≤ gb322));have n3_:=zm_ ((by rw [hg];exact (below_size zB_) : w.heap.size ≤ gb322));clear HB;have HB:=n0_;have BK322:=n1_;have GW322:=n2_;have GE322:=n3_;clear n0_ n1_ n2_ n3_;clear hb hbox hg)|((with_reducible refine gate_dst (N:=3) rfl ?_);refine box_event ?hg (N:=3) ?hd (cs:=#[.slice A1_0 l1_0.length c1_0]) (t:=122) ?hr ?_;(case hd => rfl);(case hg => rfl);(case hr => first|(go_simp;done)|(go_simp;rfl));intro gb323 hg w12 hbox hb;have n0_:=zm_ (blk_below (g:=gb322) (o:=.cells #[.slice A0_0 l0_0.length c0_0] 122 (0,0)) (by (with_reducible repeat first|refine zl_ ?_ _|refine zr_ ?_|refine zk_ ?_ _);exact BK322.out) hb);have n1_:=zm_ (below_step (by repeat (first|(with_reducible first|exact HB.out|apply za_|apply zn_|apply zd_|refine zs_ ?_ GE322.out)|exact HB.out)) hb);have n2_:=zm_ (hbox);have n3_:=zm_ ((by rw [hg];exact (below_size (by repeat (first|(with_reducible first|exact HB.out|apply za_|apply zn_|apply zd_|refine zs_ ?_ GE322.out)|exact HB.out))) : w.heap.size ≤ gb323));have n4_:=zm_ ((by rw [hg];exact (below_size (by repeat (first|(with_reducible first|exact HB.out|apply za_|apply zn_|apply zd_|refine zs_ ?_ GE322.out)|exact HB.out))) : w.heap.size ≤ gb323));have n5_:=zm_ ((by rw [hg];exact Nat.ne_of_lt (blk_lt (g:=gb322) (o:=.cells #[.slice A0_0 l0_0.length c0_0] 122 (0,0)) (by (with_reducible repeat first|refine zl_ ?_ _|refine zr_ ?_|refine zk_ ?_ _);exact BK322.out)) : gb322 ≠ gb323));have n6_:=zm_ ((by rw [hg];exact Nat.ne_of_gt (blk_lt (g:=gb322) (o:=.cells #[.slice A0_0 l0_0.length c0_0] 122 (0,0)) (by (with_reducible repeat first|refine zl_ ?_ _|refine zr_ ?_|refine zk_ ?_ _);exact BK322.out)) : gb323 ≠ gb322));clear BK322;clear HB;have BK322:=n0_;have HB:=n1_;have BK323:=n2_;have GW323:=n3_;have GE323:=n4_;have NB322_323:=n5_;have NB323_322:=n6_;clear n0_ n1_ n2_ n3_ n4_ n5_ n6_;clear hb hbox hg;have hnb13:=NB322_323.out;have hnc13:=NB323_322.out;have hcz14_0 : w12.cell? ⟨gb322,0,none⟩ = some (.slice A0_0 l0_0.length c0_0):=(zc_ BK322.out 0).trans rfl;have hfz14_0:=zf_ BK322.out 0;have hcz15_0 : w12.cell? ⟨gb323,0,none⟩ = some (.slice A1_0 l1_0.length c1_0):=(zc_ BK323.out 0).trans rfl;have hfz15_0:=zf_ BK323.out 0)|((with_reducible refine gate_callee (f:=62) rfl ?_);refine goesL_ (some 9) rfl rfl Try.func62 (by kernel_rfl) rfl #[.slice A0_0 l0_0.length c0_0,.slice A1_0 l1_0.length c1_0] rfl zq_ ?_;(with_reducible refine (laws_eqExNodeS.calls k _ _ l0_0 _ _ l1_0 false _ ?side1 ?side2 ?side3 ?side4 A3.out).mono ?_);(case side1 => repeat (first|exact (Kd.C_below HR0_0.out HB.out)|(with_reducible refine Kd.C_alloc ?_ _)|(with_reducible refine Kd.C_drewN ?_ _)|(with_reducible refine Kd.C_drew ?_)));(case side2 => exact HC0_0.out);(case side3 => repeat (first|exact (Kd.C_below HR1_0.out HB.out)|(with_reducible refine Kd.C_alloc ?_ _)|(with_reducible refine Kd.C_drewN ?_ _)|(with_reducible refine Kd.C_drew ?_)));(case side4 => exact HC1_0.out);rintro e w16 ⟨rfl,hb⟩;refine ⟨_,rfl,?_⟩;have n0_:=zm_ (blk_below (g:=gb322) (o:=.cells #[.slice A0_0 l0_0.length c0_0] 122 (0,0)) (by (with_reducible repeat first|refine zl_ ?_ _|refine zr_ ?_|refine zk_ ?_ _);exact BK322.out) hb);have n1_:=zm_ (blk_below (g:=gb323) (o:=.cells #[.slice A1_0 l1_0.length c1_0] 122 (0,0)) (by (with_reducible repeat first|refine zl_ ?_ _|refine zr_ ?_|refine zk_ ?_ _);exact BK323.out) hb);have n2_:=zm_ (below_step (by repeat (first|(with_reducible first|exact HB.out|apply za_|apply zn_|apply zd_|refine zs_ ?_ GE322.out|refine zs_ ?_ GE323.out)|exact HB.out)) hb);clear BK322;clear BK323;clear HB;have BK322:=n0_;have BK323:=n1_;have HB:=n2_;clear n0_ n1_ n2_;(try clear hb)))
  go_ret
  exact ⟨zE_,by repeat (first|(with_reducible first|exact HB.out|apply za_|apply zn_|apply zd_|refine zs_ ?_ GE322.out|refine zs_ ?_ GE323.out)|exact HB.out)⟩

end Go.Proofs.Ytkbgmojomgelbaa.MFnExactTreeText
