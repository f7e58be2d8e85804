import Derived.Test.YtnmhggdaccbbfaaMFnExactEvalExprx0
namespace Go.Proofs.Ytnmhggdaccbbfaa.MFnExactEvalExpr
open Go.RowKit Go.Proofs.YtnmhggdaccbbfaaW.PrintWords Go.Proofs.YtnmhggdaccbbfaaW.PrintLast Go.Proofs.YtnmhggdaccbbfaaW.PrintMore
attribute [local go_sem] max2_int min2_int max_two min_two max_three min_three max_four min_four
set_option linter.unusedVariables false
set_option linter.unusedSimpArgs false

def impl_within.f (a0 : Int) (a1 : Int) (a2 : Int) : Option (Bool):=if a0 ≥ a1 then (some (decide (a0 ≤ a2))) else (some false)
set_option maxHeartbeats 8000000 in
set_option maxRecDepth 100000 in
theorem impl_within.calls (a0 : Int) (a1 : Int) (a2 : Int) (r : Bool) (w : World) (h : impl_within.f a0 a1 a2 = some r) :
  Calls Try.prog 49 #[.int .i64 a0,.int .i64 a1,.int .i64 a2] w fun e w' => e = .returned (.bool r) ∧ Drawn0 w w':=by
 have H : (if a0 ≥ a1 then (some (decide (a0 ≤ a2))) else (some false)) = some r:=h
 clear h
 by_cases c4 : a0 ≥ a1
 ·rw [if_pos c4] at H
  have c4b0 : decide (a1 ≤ a0) = true:=decide_eq_true c4
  clear c4
  obtain rfl:=Option.some.inj H
  go_enter Try.func49,Try.ntmps49
  go_wp2
  go_ret
  exact ⟨by first|rfl|(simp;done)|(simp [*];done),by repeat (first|exact Drawn0.refl _|apply Drawn0.step)⟩
 ·rw [if_neg c4] at H
  have c4b0 : decide (a1 ≤ a0) = false:=decide_eq_false c4
  clear c4
  obtain rfl:=Option.some.inj H
  go_enter Try.func49,Try.ntmps49
  go_wp2
  go_ret
  exact ⟨by first|rfl|(simp;done)|(simp [*];done),by repeat (first|exact Drawn0.refl _|apply Drawn0.step)⟩

def impl_kidCount.f (a0 : Int) : Option (Int):=(impl_within.f a0 1 3).bind fun t101 => (if t101 = true then (some 0) else ((impl_within.f a0 4 10).bind fun t102 => (if t102 = true then (some 2) else (if a0 = 11 then (some 1) else (some (-1))))))
set_option maxHeartbeats 8000000 in
set_option maxRecDepth 100000 in
theorem impl_kidCount.calls (a0 : Int) (r : Int) (w : World) (h : impl_kidCount.f a0 = some r) :
  Calls Try.prog 79 #[.int .i64 a0] w fun e w' => e = .returned (.int .i64 r) ∧ Drawn0 w w':=by
 have H : ((impl_within.f a0 1 3).bind fun t101 => (if t101 = true then (some 0) else ((impl_within.f a0 4 10).bind fun t102 => (if t102 = true then (some 2) else (if a0 = 11 then (some 1) else (some (-1))))))) = some r:=h
 clear h
 replace H:=Option.bind_eq_some_iff.mp H
 obtain ⟨t101,A20,H⟩:=H
 replace H : (if t101 = true then (some 0) else ((impl_within.f a0 4 10).bind fun t102 => (if t102 = true then (some 2) else (if a0 = 11 then (some 1) else (some (-1)))))) = some r:=H
 have A2:=zm_ A20
 clear A20
 by_cases c3 : t101 = true
 ·subst c3
  have H1 : (some 0) = some r:=by rw [if_pos rfl] at H;exact H
  clear H
  have H:=H1
  clear H1
  obtain rfl:=Option.some.inj H
  go_enter Try.func79,Try.ntmps79
  go_wp2_with (first|((with_reducible refine gate_callee (f:=49) rfl ?_);refine goesL_ (some 5) rfl rfl Try.func49 (by kernel_rfl) rfl #[.int .i64 a0,.int .i64 1,.int .i64 3] rfl (by (try simp only [List.map_toArray,List.map_cons,List.map_nil]);first|done|rfl|(simp only [List.length_drop,List.length_take];rfl)) ?_;(with_reducible refine (impl_within.calls a0 1 3 true _ A2.out).mono ?_);rintro e w' ⟨rfl,⟨nd,rfl⟩⟩;refine ⟨_,rfl,?_⟩))
  go_ret
  exact ⟨by first|rfl|(simp;done)|(simp [*];done),by repeat (first|exact Drawn0.refl _|apply Drawn0.step)⟩
 ·replace c3:=Bool.eq_false_iff.mpr c3
  subst c3
  have H1 : ((impl_within.f a0 4 10).bind fun t102 => (if t102 = true then (some 2) else (if a0 = 11 then (some 1) else (some (-1))))) = some r:=by rw [if_neg (show ¬ (false = true) by decide)] at H;exact H
  clear H
  have H:=H1
  clear H1
  replace H:=Option.bind_eq_some_iff.mp H
  obtain ⟨t102,A40,H⟩:=H
  replace H : (if t102 = true then (some 2) else (if a0 = 11 then (some 1) else (some (-1)))) = some r:=H
  have A4:=zm_ A40
  clear A40
  by_cases c5 : t102 = true
  ·subst c5
   have H1 : (some 2) = some r:=by rw [if_pos rfl] at H;exact H
   clear H
   have H:=H1
   clear H1
   obtain rfl:=Option.some.inj H
   go_enter Try.func79,Try.ntmps79
   go_wp2_with (first|((with_reducible refine gate_callee (f:=49) rfl ?_);refine goesL_ (some 5) rfl rfl Try.func49 (by kernel_rfl) rfl #[.int .i64 a0,.int .i64 1,.int .i64 3] rfl (by (try simp only [List.map_toArray,List.map_cons,List.map_nil]);first|done|rfl|(simp only [List.length_drop,List.length_take];rfl)) ?_;(with_reducible refine (impl_within.calls a0 1 3 false _ A2.out).mono ?_);rintro e w' ⟨rfl,⟨nd,rfl⟩⟩;refine ⟨_,rfl,?_⟩)|((with_reducible refine gate_callee (f:=49) rfl ?_);refine goesL_ (some 8) rfl rfl Try.func49 (by kernel_rfl) rfl #[.int .i64 a0,.int .i64 4,.int .i64 10] rfl (by (try simp only [List.map_toArray,List.map_cons,List.map_nil]);first|done|rfl|(simp only [List.length_drop,List.length_take];rfl)) ?_;(with_reducible refine (impl_within.calls a0 4 10 true _ A4.out).mono ?_);rintro e w' ⟨rfl,⟨nd,rfl⟩⟩;refine ⟨_,rfl,?_⟩))
   go_ret
   exact ⟨by first|rfl|(simp;done)|(simp [*];done),by repeat (first|exact Drawn0.refl _|apply Drawn0.step)⟩
  ·replace c5:=Bool.eq_false_iff.mpr c5
   subst c5
   have H1 : (if a0 = 11 then (some 1) else (some (-1))) = some r:=by rw [if_neg (show ¬ (false = true) by decide)] at H;exact H
   clear H
   have H:=H1
   clear H1
   by_cases c6 : a0 = 11
   ·rw [if_pos c6] at H
    have c6b0 : (a0 == 11) = true:=beq_iff_eq.mpr c6
    have c6b1 : (a0 != 11) = false:=bne_eq_false_iff_eq.mpr c6
    clear c6
    obtain rfl:=Option.some.inj H
    go_enter Try.func79,Try.ntmps79
    go_wp2_with (first|((with_reducible refine gate_callee (f:=49) rfl ?_);refine goesL_ (some 5) rfl rfl Try.func49 (by kernel_rfl) rfl #[.int .i64 a0,.int .i64 1,.int .i64 3] rfl (by (try simp only [List.map_toArray,List.map_cons,List.map_nil]);first|done|rfl|(simp only [List.length_drop,List.length_take];rfl)) ?_;(with_reducible refine (impl_within.calls a0 1 3 false _ A2.out).mono ?_);rintro e w' ⟨rfl,⟨nd,rfl⟩⟩;refine ⟨_,rfl,?_⟩)|((with_reducible refine gate_callee (f:=49) rfl ?_);refine goesL_ (some 8) rfl rfl Try.func49 (by kernel_rfl) rfl #[.int .i64 a0,.int .i64 4,.int .i64 10] rfl (by (try simp only [List.map_toArray,List.map_cons,List.map_nil]);first|done|rfl|(simp only [List.length_drop,List.length_take];rfl)) ?_;(with_reducible refine (impl_within.calls a0 4 10 false _ A4.out).mono ?_);rintro e w' ⟨rfl,⟨nd,rfl⟩⟩;refine ⟨_,rfl,?_⟩))
    go_ret
    exact ⟨by first|rfl|(simp;done)|(simp [*];done),by repeat (first|exact Drawn0.refl _|apply Drawn0.step)⟩
   ·rw [if_neg c6] at H
    have c6b0 : (a0 == 11) = false:=beq_eq_false_iff_ne.mpr c6
    have c6b1 : (a0 != 11) = true:=bne_iff_ne.mpr c6
    obtain rfl:=Option.some.inj H
    go_enter Try.func79,Try.ntmps79
    go_wp2_with (first|((with_reducible refine gate_callee (f:=49) rfl ?_);refine goesL_ (some 5) rfl rfl Try.func49 (by kernel_rfl) rfl #[.int .i64 a0,.int .i64 1,.int .i64 3] rfl (by (try simp only [List.map_toArray,List.map_cons,List.map_nil]);first|done|rfl|(simp only [List.length_drop,List.length_take];rfl)) ?_;(with_reducible refine (impl_within.calls a0 1 3 false _ A2.out).mono ?_);rintro e w' ⟨rfl,⟨nd,rfl⟩⟩;refine ⟨_,rfl,?_⟩)|((with_reducible refine gate_callee (f:=49) rfl ?_);refine goesL_ (some 8) rfl rfl Try.func49 (by kernel_rfl) rfl #[.int .i64 a0,.int .i64 4,.int .i64 10] rfl (by (try simp only [List.map_toArray,List.map_cons,List.map_nil]);first|done|rfl|(simp only [List.length_drop,List.length_take];rfl)) ?_;(with_reducible refine (impl_within.calls a0 4 10 false _ A4.out).mono ?_);rintro e w' ⟨rfl,⟨nd,rfl⟩⟩;refine ⟨_,rfl,?_⟩))
    go_ret
    exact ⟨by first|rfl|(simp;done)|(simp [*];done),by repeat (first|exact Drawn0.refl _|apply Drawn0.step)⟩

def impl_kidsAhead.l0 : Nat → Int → List Int → Int → Int → Option (Bool)
 |0,_,_,_,_ => none
 |k + 1,x1,x7,x8,x9 => if x9 < x8 then (if 0 ≤ x9 then (if x9 < (x7.length : Int) then ((impl_within.f (rd x7 x9) 0 (wrap64 (x1 - 1))).bind fun t104 => (if t104 = true then (impl_kidsAhead.l0 k x1 x7 x8 (wrap64 (x9 + 1))) else (some false))) else (none)) else (none)) else (some true)
def impl_kidsAhead.f (k : Nat) (l0 : List Int) (a1 : Int) : Option (Bool):=impl_kidsAhead.l0 k a1 l0 (l0.length : Int) 0
theorem impl_kidsAhead.mono_l : ∀ k,(∀ y0 y1 y2 y3,LeO (impl_kidsAhead.l0 k y0 y1 y2 y3) (impl_kidsAhead.l0 (k + 1) y0 y1 y2 y3))
 |0 => fun _ _ _ _ r h => by simp [impl_kidsAhead.l0] at h
 |k + 1 => by
  have ih0:=impl_kidsAhead.mono_l k
  ·intro y0 y1 y2 y3
   unfold impl_kidsAhead.l0
   repeat' first
   |(with_reducible exact ih0 _ _ _ _)
   |(with_reducible exact LeO.refl _)
   |(with_reducible exact LeO.none _)
   |(with_reducible refine LeO.ite ?_ ?_)
   |(with_reducible refine LeO.bind ?_ (fun _ => ?_))
theorem impl_kidsAhead.mono : ∀ a0 a1 k,LeO (impl_kidsAhead.f k a0 a1) (impl_kidsAhead.f (k + 1) a0 a1):=by
 intro a0 a1 k
 have ih0:=impl_kidsAhead.mono_l k
 unfold impl_kidsAhead.f
 repeat' first
   |(with_reducible exact ih0 _ _ _ _)
   |(with_reducible exact LeO.refl _)
   |(with_reducible exact LeO.none _)
   |(with_reducible refine LeO.ite ?_ ?_)
   |(with_reducible refine LeO.bind ?_ (fun _ => ?_))
set_option maxHeartbeats 8000000 in
set_option maxRecDepth 100000 in
theorem impl_kidsAhead.calls (k : Nat) (A0 : Option Addr) (c0 : Nat) (l0 : List Int) (a1 : Int) (r : Bool) (w : World) (hr0 : Kd.C (Kd.int .i64) w A0 l0.length l0) (hc0 : l0.length ≤ c0) (h : impl_kidsAhead.f k l0 a1 = some r) :
  Calls Try.prog 80 #[.slice A0 l0.length c0,.int .i64 a1] w fun e w' => e = .returned (.bool r) ∧ Drawn0 w w':=by
 have HR0:=zm_ hr0
 have HC0:=zm_ hc0
 clear hr0 hc0
 have H : (impl_kidsAhead.l0 k a1 l0 (l0.length : Int) 0) = some r:=h
 clear h
 have H':=zm_ H
 clear H
 go_enter Try.func80,Try.ntmps80
 go_wp2
 go_loopg [9] k (fun kq v9 w' => ∃ (x9_1 : Int),v9 = .int .i64 x9_1 ∧ Aside0 (impl_kidsAhead.l0 kq a1 l0 (l0.length : Int) x9_1 = some r) ∧ Aside0 (kq ≤ k) ∧ Drawn0 w w')
 case atStart => exact ⟨(0),(by first|rfl|(exact congrArg Value.bool (isEmpty_ne _))|(exact congrArg Value.bool (isEmpty_ne' _))|(exact congrArg Value.bool (isEmpty_eq _))|(simp;done)|(simp [*];done)),H',⟨Nat.le_refl _⟩,by repeat (first|exact Drawn0.refl _|apply Drawn0.step)⟩
 case round =>
  clear H'
  try clear p2
  obtain ⟨x9_1,rfl,HA,HK1,⟨m1,rfl⟩⟩:=hrel
  cases gk with
  |zero => exact absurd HA.out (by simp [impl_kidsAhead.l0])
  |succ k1 =>
   have H:=HA.out
   clear HA
   simp only [impl_kidsAhead.l0] at H
   by_cases c3 : x9_1 < (l0.length : Int)
   ·rw [if_pos c3] at H
    have c3b0 : decide (x9_1 < (l0.length : Int)) = true:=decide_eq_true c3
    clear c3
    by_cases c4 : 0 ≤ x9_1
    ·rw [if_pos c4] at H
     have c4b0 : decide (0 ≤ x9_1) = true:=decide_eq_true c4
     clear c4
     by_cases c5 : x9_1 < (l0.length : Int)
     ·rw [if_pos c5] at H
      have c5b0 : decide (x9_1 < (l0.length : Int)) = true:=decide_eq_true c5
      clear c5
      replace H:=Option.bind_eq_some_iff.mp H
      obtain ⟨t104,A60,H⟩:=H
      replace H : (if t104 = true then (impl_kidsAhead.l0 k1 a1 l0 (l0.length : Int) (wrap64 (x9_1 + 1))) else (some false)) = some r:=H
      have A6:=zm_ A60
      clear A60
      by_cases c7 : t104 = true
      ·subst c7
       have H1 : (impl_kidsAhead.l0 k1 a1 l0 (l0.length : Int) (wrap64 (x9_1 + 1))) = some r:=by rw [if_pos rfl] at H;exact H
       clear H
       have H:=H1
       clear H1
       have H':=zm_ H
       clear H
       have p103 : 0 ≤ (x9_1 : Int):=zo_
       have q103 : x9_1 < (l0.length : Int):=zo_
       obtain ⟨ad103,e103,hx103_0⟩:=Kd.at_int HR0.out x9_1 p103 q103
       cases e103
       replace p103:=eq_true p103
       replace q103:=eq_true q103
       go_wp2_with (first|((with_reducible refine gate_callee (f:=49) rfl ?_);refine goesL_ (some 16) rfl rfl Try.func49 (by kernel_rfl) rfl #[.int .i64 (rd l0 x9_1),.int .i64 0,.int .i64 (wrap64 (a1 - 1))] rfl (by (try simp only [List.map_toArray,List.map_cons,List.map_nil]);first|done|rfl|(simp only [List.length_drop,List.length_take];rfl)) ?_;(with_reducible refine (impl_within.calls (rd l0 x9_1) 0 (wrap64 (a1 - 1)) true _ A6.out).mono ?_);rintro e w' ⟨rfl,⟨nd,rfl⟩⟩;refine ⟨_,rfl,?_⟩))
       go_roundg k1
       case measure => have:=HK1.out;omega
       case rel => exact ⟨(wrap64 (x9_1 + 1)),(by first|rfl|(exact congrArg Value.bool (isEmpty_ne _))|(exact congrArg Value.bool (isEmpty_ne' _))|(exact congrArg Value.bool (isEmpty_eq _))|(simp;done)|(simp [*];done)),H',⟨by have:=HK1.out;omega⟩,by repeat (first|exact Drawn0.refl _|apply Drawn0.step)⟩
      ·replace c7:=Bool.eq_false_iff.mpr c7
       subst c7
       have H1 : (some false) = some r:=by rw [if_neg (show ¬ (false = true) by decide)] at H;exact H
       clear H
       have H:=H1
       clear H1
       obtain rfl:=Option.some.inj H
       have p103 : 0 ≤ (x9_1 : Int):=zo_
       have q103 : x9_1 < (l0.length : Int):=zo_
       obtain ⟨ad103,e103,hx103_0⟩:=Kd.at_int HR0.out x9_1 p103 q103
       cases e103
       replace p103:=eq_true p103
       replace q103:=eq_true q103
       go_wp2_with (first|((with_reducible refine gate_callee (f:=49) rfl ?_);refine goesL_ (some 16) rfl rfl Try.func49 (by kernel_rfl) rfl #[.int .i64 (rd l0 x9_1),.int .i64 0,.int .i64 (wrap64 (a1 - 1))] rfl (by (try simp only [List.map_toArray,List.map_cons,List.map_nil]);first|done|rfl|(simp only [List.length_drop,List.length_take];rfl)) ?_;(with_reducible refine (impl_within.calls (rd l0 x9_1) 0 (wrap64 (a1 - 1)) false _ A6.out).mono ?_);rintro e w' ⟨rfl,⟨nd,rfl⟩⟩;refine ⟨_,rfl,?_⟩))
       go_ret
       exact ⟨by first|rfl|(simp;done)|(simp [*];done),by repeat (first|exact Drawn0.refl _|apply Drawn0.step)⟩
     ·rw [if_neg c5] at H
      exact absurd H (by simp)
    ·rw [if_neg c4] at H
     exact absurd H (by simp)
   ·rw [if_neg c3] at H
    have c3b0 : decide (x9_1 < (l0.length : Int)) = false:=decide_eq_false c3
    clear c3
    obtain rfl:=Option.some.inj H
    go_wp2
    go_ret
    exact ⟨by first|rfl|(simp;done)|(simp [*];done),by repeat (first|exact Drawn0.refl _|apply Drawn0.step)⟩

def impl_isSmall.f (a0 : Int) : Option (Bool):=(impl_within.f (wrap64 (a0)) 97 122).bind fun t105 => (some t105)
set_option maxHeartbeats 8000000 in
set_option maxRecDepth 100000 in
theorem impl_isSmall.calls (a0 : Int) (r : Bool) (w : World) (h : impl_isSmall.f a0 = some r) :
  Calls Try.prog 95 #[.int .u8 a0] w fun e w' => e = .returned (.bool r) ∧ Drawn0 w w':=by
 have H : ((impl_within.f (wrap64 (a0)) 97 122).bind fun t105 => (some t105)) = some r:=h
 clear h
 replace H:=Option.bind_eq_some_iff.mp H
 obtain ⟨t105,A20,H⟩:=H
 replace H : (some t105) = some r:=H
 have A2:=zm_ A20
 clear A20
 obtain rfl:=Option.some.inj H
 go_enter Try.func95,Try.ntmps95
 go_wp2_with (first|((with_reducible refine gate_callee (f:=49) rfl ?_);refine goesL_ (some 5) rfl rfl Try.func49 (by kernel_rfl) rfl #[.int .i64 (wrap64 (a0)),.int .i64 97,.int .i64 122] rfl (by (try simp only [List.map_toArray,List.map_cons,List.map_nil]);first|done|rfl|(simp only [List.length_drop,List.length_take];rfl)) ?_;(with_reducible refine (impl_within.calls (wrap64 (a0)) 97 122 t105 _ A2.out).mono ?_);rintro e w' ⟨rfl,⟨nd,rfl⟩⟩;refine ⟨_,rfl,?_⟩))
 go_ret
 exact ⟨by first|rfl|(simp;done)|(simp [*];done),by repeat (first|exact Drawn0.refl _|apply Drawn0.step)⟩

def impl_VarName.l0 : Nat → ByteArray → Int → Int → Option (Bool)
 |0,_,_,_ => none
 |k + 1,x0,x5,x6 => if x6 < x5 then (if 0 ≤ x6 then (if x6 < (x0.size : Int) then ((impl_isSmall.f (bt x0 x6)).bind fun t106 => (if t106 = true then (impl_VarName.l0 k x0 x5 (wrap64 (x6 + 1))) else (some false))) else (none)) else (none)) else ((impl_within.f (x0.size : Int) 1 4).bind fun t107 => (some t107))
def impl_VarName.f (k : Nat) (a0 : ByteArray) : Option (Bool):=impl_VarName.l0 k a0 (a0.size : Int) 0
theorem impl_VarName.mono_l : ∀ k,(∀ y0 y1 y2,LeO (impl_VarName.l0 k y0 y1 y2) (impl_VarName.l0 (k + 1) y0 y1 y2))
 |0 => fun _ _ _ r h => by simp [impl_VarName.l0] at h
 |k + 1 => by
  have ih0:=impl_VarName.mono_l k
  ·intro y0 y1 y2
   unfold impl_VarName.l0
   repeat' first
   |(with_reducible exact ih0 _ _ _)
   |(with_reducible exact LeO.refl _)
   |(with_reducible exact LeO.none _)
   |(with_reducible refine LeO.ite ?_ ?_)
   |(with_reducible refine LeO.bind ?_ (fun _ => ?_))
theorem impl_VarName.mono : ∀ a0 k,LeO (impl_VarName.f k a0) (impl_VarName.f (k + 1) a0):=by
 intro a0 k
 have ih0:=impl_VarName.mono_l k
 unfold impl_VarName.f
 repeat' first
   |(with_reducible exact ih0 _ _ _)
   |(with_reducible exact LeO.refl _)
   |(with_reducible exact LeO.none _)
   |(with_reducible refine LeO.ite ?_ ?_)
   |(with_reducible refine LeO.bind ?_ (fun _ => ?_))
set_option maxHeartbeats 8000000 in
set_option maxRecDepth 100000 in
theorem impl_VarName.calls (k : Nat) (a0 : ByteArray) (r : Bool) (w : World) (h : impl_VarName.f k a0 = some r) :
  Calls Try.prog 81 #[.string a0] w fun e w' => e = .returned (.bool r) ∧ Drawn0 w w':=by
 have H : (impl_VarName.l0 k a0 (a0.size : Int) 0) = some r:=h
 clear h
 have H':=zm_ H
 clear H
 go_enter Try.func81,Try.ntmps81
 go_wp2
 go_loopg [6] k (fun kq v6 w' => ∃ (x6_1 : Int),v6 = .int .i64 x6_1 ∧ Aside0 (impl_VarName.l0 kq a0 (a0.size : Int) x6_1 = some r) ∧ Aside0 (kq ≤ k) ∧ Drawn0 w w')
 case atStart => exact ⟨(0),(by first|rfl|(exact congrArg Value.bool (isEmpty_ne _))|(exact congrArg Value.bool (isEmpty_ne' _))|(exact congrArg Value.bool (isEmpty_eq _))|(simp;done)|(simp [*];done)),H',⟨Nat.le_refl _⟩,by repeat (first|exact Drawn0.refl _|apply Drawn0.step)⟩
 case round =>
  clear H'
  obtain ⟨x6_1,rfl,HA,HK1,⟨m1,rfl⟩⟩:=hrel
  cases gk with
  |zero => exact absurd HA.out (by simp [impl_VarName.l0])
  |succ k1 =>
   have H:=HA.out
   clear HA
   simp only [impl_VarName.l0] at H
   by_cases c2 : x6_1 < (a0.size : Int)
   ·rw [if_pos c2] at H
    have c2b0 : decide (x6_1 < (a0.size : Int)) = true:=decide_eq_true c2
    clear c2
    by_cases c3 : 0 ≤ x6_1
    ·rw [if_pos c3] at H
     have c3b0 : decide (0 ≤ x6_1) = true:=decide_eq_true c3
     clear c3
     by_cases c4 : x6_1 < (a0.size : Int)
     ·rw [if_pos c4] at H
      have c4b0 : decide (x6_1 < (a0.size : Int)) = true:=decide_eq_true c4
      clear c4
      replace H:=Option.bind_eq_some_iff.mp H
      obtain ⟨t106,A60,H⟩:=H
      replace H : (if t106 = true then (impl_VarName.l0 k1 a0 (a0.size : Int) (wrap64 (x6_1 + 1))) else (some false)) = some r:=H
      have A6:=zm_ A60
      clear A60
      by_cases c7 : t106 = true
      ·subst c7
       have H1 : (impl_VarName.l0 k1 a0 (a0.size : Int) (wrap64 (x6_1 + 1))) = some r:=by rw [if_pos rfl] at H;exact H
       clear H
       have H:=H1
       clear H1
       have H':=zm_ H
       clear H
       have p5 : 0 ≤ (x6_1 : Int):=zo_
       have q5 : x6_1 < (a0.size : Int):=zo_
       have hx5:=bt_at a0 x6_1
       replace p5:=eq_true p5
       replace q5:=eq_true q5
       go_wp2_with (first|((with_reducible refine gate_callee (f:=95) rfl ?_);refine goesL_ (some 12) rfl rfl Try.func95 (by kernel_rfl) rfl #[.int .u8 (bt a0 x6_1)] rfl (by (try simp only [List.map_toArray,List.map_cons,List.map_nil]);first|done|rfl|(simp only [List.length_drop,List.length_take];rfl)) ?_;(with_reducible refine (impl_isSmall.calls (bt a0 x6_1) true _ A6.out).mono ?_);rintro e w' ⟨rfl,⟨nd,rfl⟩⟩;refine ⟨_,rfl,?_⟩))
       go_roundg k1
       case measure => have:=HK1.out;omega
       case rel => exact ⟨(wrap64 (x6_1 + 1)),(by first|rfl|(exact congrArg Value.bool (isEmpty_ne _))|(exact congrArg Value.bool (isEmpty_ne' _))|(exact congrArg Value.bool (isEmpty_eq _))|(simp;done)|(simp [*];done)),H',⟨by have:=HK1.out;omega⟩,by repeat (first|exact Drawn0.refl _|apply Drawn0.step)⟩
      ·replace c7:=Bool.eq_false_iff.mpr c7
       subst c7
       have H1 : (some false) = some r:=by rw [if_neg (show ¬ (false = true) by decide)] at H;exact H
       clear H
       have H:=H1
       clear H1
       obtain rfl:=Option.some.inj H
       have p5 : 0 ≤ (x6_1 : Int):=zo_
       have q5 : x6_1 < (a0.size : Int):=zo_
       have hx5:=bt_at a0 x6_1
       replace p5:=eq_true p5
       replace q5:=eq_true q5
       go_wp2_with (first|((with_reducible refine gate_callee (f:=95) rfl ?_);refine goesL_ (some 12) rfl rfl Try.func95 (by kernel_rfl) rfl #[.int .u8 (bt a0 x6_1)] rfl (by (try simp only [List.map_toArray,List.map_cons,List.map_nil]);first|done|rfl|(simp only [List.length_drop,List.length_take];rfl)) ?_;(with_reducible refine (impl_isSmall.calls (bt a0 x6_1) false _ A6.out).mono ?_);rintro e w' ⟨rfl,⟨nd,rfl⟩⟩;refine ⟨_,rfl,?_⟩))
       go_ret
       exact ⟨by first|rfl|(simp;done)|(simp [*];done),by repeat (first|exact Drawn0.refl _|apply Drawn0.step)⟩
     ·rw [if_neg c4] at H
      exact absurd H (by simp)
    ·rw [if_neg c3] at H
     exact absurd H (by simp)
   ·rw [if_neg c2] at H
    have c2b0 : decide (x6_1 < (a0.size : Int)) = false:=decide_eq_false c2
    clear c2
    replace H:=Option.bind_eq_some_iff.mp H
    obtain ⟨t107,A80,H⟩:=H
    replace H : (some t107) = some r:=H
    have A8:=zm_ A80
    clear A80
    obtain rfl:=Option.some.inj H
    go_wp2_with (first|((with_reducible refine gate_callee (f:=49) rfl ?_);refine goesL_ (some 17) rfl rfl Try.func49 (by kernel_rfl) rfl #[.int .i64 (a0.size : Int),.int .i64 1,.int .i64 4] rfl (by (try simp only [List.map_toArray,List.map_cons,List.map_nil]);first|done|rfl|(simp only [List.length_drop,List.length_take];rfl)) ?_;(with_reducible refine (impl_within.calls (a0.size : Int) 1 4 t107 _ A8.out).mono ?_);rintro e w' ⟨rfl,⟨nd,rfl⟩⟩;refine ⟨_,rfl,?_⟩))
    go_ret
    exact ⟨by first|rfl|(simp;done)|(simp [*];done),by repeat (first|exact Drawn0.refl _|apply Drawn0.step)⟩

def impl_exNodeOk.j0 : Nat → Bool → Int → Int → ByteArray → List Int → Option (Bool)
 |0,_,_,_,_,_ => none
 |k + 1,x20,x109000,x109001,x109002,x109003 => if x20 = true then (some false) else (if x109001 = 0 then (if x109002.toList = ([] : List UInt8) then (if x109000 = 2 then ((impl_VarName.f k x109002).bind fun t111 => (some t111)) else (some true)) else (if x109000 = 2 then ((impl_VarName.f k x109002).bind fun t112 => (some t112)) else (some false))) else (if x109000 = 1 then ((impl_within.f x109001 0 99).bind fun t113 => (if x109002.toList = ([] : List UInt8) then (if x109000 = 2 then ((impl_VarName.f k x109002).bind fun t114 => (if t113 = true then (some t114) else (some false))) else (if t113 = true then (some true) else (some false))) else (if x109000 = 2 then ((impl_VarName.f k x109002).bind fun t115 => (if t113 = true then (some t115) else (some false))) else (if t113 = true then (some false) else (some false))))) else (if x109002.toList = ([] : List UInt8) then (if x109000 = 2 then ((impl_VarName.f k x109002).bind fun t116 => (some false)) else (some false)) else (if x109000 = 2 then ((impl_VarName.f k x109002).bind fun t117 => (some false)) else (some false)))))
def impl_exNodeOk.f (k : Nat) (a0_0 : Int) (a0_1 : Int) (a0_2 : ByteArray) (l0_3 : List Int) (a1 : Int) : Option (Bool):=(impl_kidCount.f a0_0).bind fun t109 => (if (l0_3.length : Int) = t109 then ((impl_kidsAhead.f k l0_3 a1).bind fun t110 => (impl_exNodeOk.j0 k (!t110) a0_0 a0_1 a0_2 l0_3)) else (impl_exNodeOk.j0 k true a0_0 a0_1 a0_2 l0_3))
theorem impl_exNodeOk.mono_l : ∀ k,(∀ y0 y1 y2 y3 y4,LeO (impl_exNodeOk.j0 k y0 y1 y2 y3 y4) (impl_exNodeOk.j0 (k + 1) y0 y1 y2 y3 y4))
 |0 => fun _ _ _ _ _ r h => by simp [impl_exNodeOk.j0] at h
 |k + 1 => by
  have ih0:=impl_exNodeOk.mono_l k
  ·intro y0 y1 y2 y3 y4
   unfold impl_exNodeOk.j0
   repeat' first
   |(with_reducible exact ih0 _ _ _ _ _)
   |(with_reducible exact impl_VarName.mono _ _)
   |(with_reducible exact impl_kidsAhead.mono _ _ _)
   |(with_reducible exact LeO.refl _)
   |(with_reducible exact LeO.none _)
   |(with_reducible refine LeO.ite ?_ ?_)
   |(with_reducible refine LeO.bind ?_ (fun _ => ?_))
theorem impl_exNodeOk.mono : ∀ a0 a1 a2 a3 a4 k,LeO (impl_exNodeOk.f k a0 a1 a2 a3 a4) (impl_exNodeOk.f (k + 1) a0 a1 a2 a3 a4):=by
 intro a0 a1 a2 a3 a4 k
 have ih0:=impl_exNodeOk.mono_l k
 unfold impl_exNodeOk.f
 repeat' first
   |(with_reducible exact ih0 _ _ _ _ _)
   |(with_reducible exact impl_VarName.mono _ _)
   |(with_reducible exact impl_kidsAhead.mono _ _ _)
   |(with_reducible exact LeO.refl _)
   |(with_reducible exact LeO.none _)
   |(with_reducible refine LeO.ite ?_ ?_)
   |(with_reducible refine LeO.bind ?_ (fun _ => ?_))
set_option maxHeartbeats 8000000 in
set_option maxRecDepth 100000 in
theorem impl_exNodeOk.calls (k : Nat) (a0_0 : Int) (a0_1 : Int) (a0_2 : ByteArray) (A0_3 : Option Addr) (c0_3 : Nat) (l0_3 : List Int) (a1 : Int) (r : Bool) (w : World) (hr0_3 : Kd.C (Kd.int .i64) w A0_3 l0_3.length l0_3) (hc0_3 : l0_3.length ≤ c0_3) (h : impl_exNodeOk.f k a0_0 a0_1 a0_2 l0_3 a1 = some r) :
  Calls Try.prog 48 #[.agg #[.int .i64 a0_0,.int .i64 a0_1,.string a0_2,.slice A0_3 l0_3.length c0_3],.int .i64 a1] w fun e w' => e = .returned (.bool r) ∧ Below w.heap.size w w':=by
 have hu34:=Try.underlying34
 have HR0_3:=zm_ hr0_3
 have HC0_3:=zm_ hc0_3
 clear hr0_3 hc0_3
 have HB:=zm_ (Below.refl w.heap.size w)
 have H : ((impl_kidCount.f a0_0).bind fun t109 => (if (l0_3.length : Int) = t109 then ((impl_kidsAhead.f k l0_3 a1).bind fun t110 => (impl_exNodeOk.j0 k (!t110) a0_0 a0_1 a0_2 l0_3)) else (impl_exNodeOk.j0 k true a0_0 a0_1 a0_2 l0_3))) = some r:=h
 clear h
 have HC3:=zm_ H
 clear H
 go_enter Try.func48,Try.ntmps48
 go_upto_region 1 with (first|((with_reducible refine gate_dst (N:=2) rfl ?_);refine box_event ?hg (N:=2) ?hd (cs:=#[.int .i64 a0_0,.int .i64 a0_1,.string a0_2,.slice A0_3 l0_3.length c0_3]) (t:=34) ?hr ?_;(case hd => rfl);(case hg => rfl);(case hr => first|(go_simp;done)|(go_simp;rfl));intro gb108 hg w4 hbox hb;have n0_:=zm_ (below_step (by repeat (first|(with_reducible first|exact HB.out|apply za_|apply zn_|apply zd_)|exact HB.out)) hb);have n1_:=zm_ (hbox);have n2_:=zm_ ((by rw [hg];exact (below_size (by repeat (first|(with_reducible first|exact HB.out|apply za_|apply zn_|apply zd_)|exact HB.out))) : w.heap.size ≤ gb108));have n3_:=zm_ ((by rw [hg];exact (below_size (by repeat (first|(with_reducible first|exact HB.out|apply za_|apply zn_|apply zd_)|exact HB.out))) : w.heap.size ≤ gb108));clear HB;have HB:=n0_;have BK108:=n1_;have GW108:=n2_;have GE108:=n3_;clear n0_ n1_ n2_ n3_;clear hb hbox hg))
 repeat (go_quiet (first|((with_reducible refine gate_dst (N:=2) rfl ?_);refine box_event ?hg (N:=2) ?hd (cs:=#[.int .i64 a0_0,.int .i64 a0_1,.string a0_2,.slice A0_3 l0_3.length c0_3]) (t:=34) ?hr ?_;(case hd => rfl);(case hg => rfl);(case hr => first|(go_simp;done)|(go_simp;rfl));intro gb108 hg w4 hbox hb;have n0_:=zm_ (below_step (by repeat (first|(with_reducible first|exact HB.out|apply za_|apply zn_|apply zd_)|exact HB.out)) hb);have n1_:=zm_ (hbox);have n2_:=zm_ ((by rw [hg];exact (below_size (by repeat (first|(with_reducible first|exact HB.out|apply za_|apply zn_|apply zd_)|exact HB.out))) : w.heap.size ≤ gb108));have n3_:=zm_ ((by rw [hg];exact (below_size (by repeat (first|(with_reducible first|exact HB.out|apply za_|apply zn_|apply zd_)|exact HB.out))) : w.heap.size ≤ gb108));clear HB;have HB:=n0_;have BK108:=n1_;have GW108:=n2_;have GE108:=n3_;clear n0_ n1_ n2_ n3_;clear hb hbox hg));go_upto_region 1 with (first|((with_reducible refine gate_dst (N:=2) rfl ?_);refine box_event ?hg (N:=2) ?hd (cs:=#[.int .i64 a0_0,.int .i64 a0_1,.string a0_2,.slice A0_3 l0_3.length c0_3]) (t:=34) ?hr ?_;(case hd => rfl);(case hg => rfl);(case hr => first|(go_simp;done)|(go_simp;rfl));intro gb108 hg w4 hbox hb;have n0_:=zm_ (below_step (by repeat (first|(with_reducible first|exact HB.out|apply za_|apply zn_|apply zd_)|exact HB.out)) hb);have n1_:=zm_ (hbox);have n2_:=zm_ ((by rw [hg];exact (below_size (by repeat (first|(with_reducible first|exact HB.out|apply za_|apply zn_|apply zd_)|exact HB.out))) : w.heap.size ≤ gb108));have n3_:=zm_ ((by rw [hg];exact (below_size (by repeat (first|(with_reducible first|exact HB.out|apply za_|apply zn_|apply zd_)|exact HB.out))) : w.heap.size ≤ gb108));clear HB;have HB:=n0_;have BK108:=n1_;have GW108:=n2_;have GE108:=n3_;clear n0_ n1_ n2_ n3_;clear hb hbox hg)))
 (try simp only [Act.put,List.setIfInBounds_toArray,List.set_cons_zero,List.set_cons_succ])
 go_cut [20] (fun v20 wc => ∃ (kq : Nat) (x20_2 : Bool),v20 = .bool x20_2 ∧ Aside0 (impl_exNodeOk.j0 kq x20_2 a0_0 a0_1 a0_2 l0_3 = some r) ∧ Aside0 (kq ≤ k) ∧ Aside0 (wc.heap[gb108]? = some (.cells #[.int .i64 a0_0,.int .i64 a0_1,.string a0_2,(.slice A0_3 l0_3.length c0_3)] 34 (0,0))) ∧ Aside0 (Below w.heap.size w wc))
 case first =>
  have H:=HC3.out
  clear HC3
  replace H:=Option.bind_eq_some_iff.mp H
  obtain ⟨t109,A50,H⟩:=H
  replace H : (if (l0_3.length : Int) = t109 then ((impl_kidsAhead.f k l0_3 a1).bind fun t110 => (impl_exNodeOk.j0 k (!t110) a0_0 a0_1 a0_2 l0_3)) else (impl_exNodeOk.j0 k true a0_0 a0_1 a0_2 l0_3)) = some r:=H
  have A5:=zm_ A50
  clear A50
  by_cases c6 : (l0_3.length : Int) = t109
  ·rw [if_pos c6] at H
   have c6b0 : ((l0_3.length : Int) == t109) = true:=beq_iff_eq.mpr c6
   have c6b1 : ((l0_3.length : Int) != t109) = false:=bne_eq_false_iff_eq.mpr c6
   clear c6
   (first|rw [c6b0]|(simp only [i64_w,i32_w];rw [c6b0])|skip)
   replace H:=Option.bind_eq_some_iff.mp H
   obtain ⟨t110,A70,H⟩:=H
   replace H : (impl_exNodeOk.j0 k (!t110) a0_0 a0_1 a0_2 l0_3) = some r:=H
   have A7:=zm_ A70
   clear A70
   have H':=zm_ H
   clear H
   have hcz8_0 : w4.cell? ⟨gb108,0,none⟩ = some (.int .i64 a0_0):=(zc_ BK108.out 0).trans rfl
   have hcz8_1 : w4.cell? ⟨gb108,1,none⟩ = some (.int .i64 a0_1):=(zc_ BK108.out 1).trans rfl
   have hcz8_2 : w4.cell? ⟨gb108,2,none⟩ = some (.string a0_2):=(zc_ BK108.out 2).trans rfl
   have hcz8_3 : w4.cell? ⟨gb108,3,none⟩ = some (.slice A0_3 l0_3.length c0_3):=(zc_ BK108.out 3).trans rfl
   have hfz8_0:=zf_ BK108.out 0
   have hfz8_1:=zf_ BK108.out 1
   have hfz8_2:=zf_ BK108.out 2
   have hfz8_3:=zf_ BK108.out 3
   go_wp2_with (first|(go_at_call 79;(with_reducible refine (impl_kidCount.calls a0_0 t109 _ A5.out).mono ?_);rintro e w' ⟨rfl,⟨nd,rfl⟩⟩;(try first|exact ⟨rfl,_,zw_ _ _ _⟩|exact ⟨rfl,_,Eq.trans (zw_ _ _ _) (congrArg (World.drewN _) (Nat.add_assoc _ _ _))⟩))|(go_at_call 80;(with_reducible refine (impl_kidsAhead.calls k _ _ l0_3 a1 t110 _ ?side1 ?side2 A7.out).mono ?_);(case side1 => repeat (first|exact (Kd.C_below HR0_3.out (by repeat (first|(with_reducible first|exact HB.out|apply za_|apply zn_|apply zd_|refine zs_ ?_ GE108.out)|exact HB.out)))|(with_reducible refine Kd.C_alloc ?_ _)|(with_reducible refine Kd.C_drewN ?_ _)|(with_reducible refine Kd.C_drew ?_)));(case side2 => exact HC0_3.out);rintro e w' ⟨rfl,⟨nd,rfl⟩⟩;(try first|exact ⟨rfl,_,zw_ _ _ _⟩|exact ⟨rfl,_,Eq.trans (zw_ _ _ _) (congrArg (World.drewN _) (Nat.add_assoc _ _ _))⟩)))
   repeat (go_quiet (first|(go_at_call 79;(with_reducible refine (impl_kidCount.calls a0_0 t109 _ A5.out).mono ?_);rintro e w' ⟨rfl,⟨nd,rfl⟩⟩;(try first|exact ⟨rfl,_,zw_ _ _ _⟩|exact ⟨rfl,_,Eq.trans (zw_ _ _ _) (congrArg (World.drewN _) (Nat.add_assoc _ _ _))⟩))|(go_at_call 80;(with_reducible refine (impl_kidsAhead.calls k _ _ l0_3 a1 t110 _ ?side1 ?side2 A7.out).mono ?_);(case side1 => repeat (first|exact (Kd.C_below HR0_3.out (by repeat (first|(with_reducible first|exact HB.out|apply za_|apply zn_|apply zd_|refine zs_ ?_ GE108.out)|exact HB.out)))|(with_reducible refine Kd.C_alloc ?_ _)|(with_reducible refine Kd.C_drewN ?_ _)|(with_reducible refine Kd.C_drew ?_)));(case side2 => exact HC0_3.out);rintro e w' ⟨rfl,⟨nd,rfl⟩⟩;(try first|exact ⟨rfl,_,zw_ _ _ _⟩|exact ⟨rfl,_,Eq.trans (zw_ _ _ _) (congrArg (World.drewN _) (Nat.add_assoc _ _ _))⟩)));try go_wp2_with (first|(go_at_call 79;(with_reducible refine (impl_kidCount.calls a0_0 t109 _ A5.out).mono ?_);rintro e w' ⟨rfl,⟨nd,rfl⟩⟩;(try first|exact ⟨rfl,_,zw_ _ _ _⟩|exact ⟨rfl,_,Eq.trans (zw_ _ _ _) (congrArg (World.drewN _) (Nat.add_assoc _ _ _))⟩))|(go_at_call 80;(with_reducible refine (impl_kidsAhead.calls k _ _ l0_3 a1 t110 _ ?side1 ?side2 A7.out).mono ?_);(case side1 => repeat (first|exact (Kd.C_below HR0_3.out (by repeat (first|(with_reducible first|exact HB.out|apply za_|apply zn_|apply zd_|refine zs_ ?_ GE108.out)|exact HB.out)))|(with_reducible refine Kd.C_alloc ?_ _)|(with_reducible refine Kd.C_drewN ?_ _)|(with_reducible refine Kd.C_drew ?_)));(case side2 => exact HC0_3.out);rintro e w' ⟨rfl,⟨nd,rfl⟩⟩;(try first|exact ⟨rfl,_,zw_ _ _ _⟩|exact ⟨rfl,_,Eq.trans (zw_ _ _ _) (congrArg (World.drewN _) (Nat.add_assoc _ _ _))⟩))))
   go_meet
   case rel => exact ⟨_,(!t110),(by first|rfl|(exact congrArg Value.bool (isEmpty_ne _))|(exact congrArg Value.bool (isEmpty_ne' _))|(exact congrArg Value.bool (isEmpty_eq _))|(simp;done)|(simp [*];done)),H',⟨by first|omega|exact Nat.le_refl _⟩,⟨by (with_reducible repeat first|refine zl_ ?_ _|refine zr_ ?_|refine zk_ ?_ _);exact BK108.out⟩,⟨by repeat (first|(with_reducible first|exact HB.out|apply za_|apply zn_|apply zd_|refine zs_ ?_ GE108.out)|exact HB.out)⟩⟩
  ·rw [if_neg c6] at H
   have c6b0 : ((l0_3.length : Int) == t109) = false:=beq_eq_false_iff_ne.mpr c6
   have c6b1 : ((l0_3.length : Int) != t109) = true:=bne_iff_ne.mpr c6
   (first|rw [c6b0]|(simp only [i64_w,i32_w];rw [c6b0])|skip)
   have H':=zm_ H
   clear H
   have hcz9_0 : w4.cell? ⟨gb108,0,none⟩ = some (.int .i64 a0_0):=(zc_ BK108.out 0).trans rfl
   have hcz9_1 : w4.cell? ⟨gb108,1,none⟩ = some (.int .i64 a0_1):=(zc_ BK108.out 1).trans rfl
   have hcz9_2 : w4.cell? ⟨gb108,2,none⟩ = some (.string a0_2):=(zc_ BK108.out 2).trans rfl
   have hcz9_3 : w4.cell? ⟨gb108,3,none⟩ = some (.slice A0_3 l0_3.length c0_3):=(zc_ BK108.out 3).trans rfl
   have hfz9_0:=zf_ BK108.out 0
   have hfz9_1:=zf_ BK108.out 1
   have hfz9_2:=zf_ BK108.out 2
   have hfz9_3:=zf_ BK108.out 3
   go_wp2_with (first|(go_at_call 79;(with_reducible refine (impl_kidCount.calls a0_0 t109 _ A5.out).mono ?_);rintro e w' ⟨rfl,⟨nd,rfl⟩⟩;(try first|exact ⟨rfl,_,zw_ _ _ _⟩|exact ⟨rfl,_,Eq.trans (zw_ _ _ _) (congrArg (World.drewN _) (Nat.add_assoc _ _ _))⟩)))
   repeat (go_quiet (first|(go_at_call 79;(with_reducible refine (impl_kidCount.calls a0_0 t109 _ A5.out).mono ?_);rintro e w' ⟨rfl,⟨nd,rfl⟩⟩;(try first|exact ⟨rfl,_,zw_ _ _ _⟩|exact ⟨rfl,_,Eq.trans (zw_ _ _ _) (congrArg (World.drewN _) (Nat.add_assoc _ _ _))⟩)));try go_wp2_with (first|(go_at_call 79;(with_reducible refine (impl_kidCount.calls a0_0 t109 _ A5.out).mono ?_);rintro e w' ⟨rfl,⟨nd,rfl⟩⟩;(try first|exact ⟨rfl,_,zw_ _ _ _⟩|exact ⟨rfl,_,Eq.trans (zw_ _ _ _) (congrArg (World.drewN _) (Nat.add_assoc _ _ _))⟩))))
   go_meet
   case rel => exact ⟨_,(true),(by first|rfl|(exact congrArg Value.bool (isEmpty_ne _))|(exact congrArg Value.bool (isEmpty_ne' _))|(exact congrArg Value.bool (isEmpty_eq _))|(simp;done)|(simp [*];done)),H',⟨by first|omega|exact Nat.le_refl _⟩,⟨by (with_reducible repeat first|refine zl_ ?_ _|refine zr_ ?_|refine zk_ ?_ _);exact BK108.out⟩,⟨by repeat (first|(with_reducible first|exact HB.out|apply za_|apply zn_|apply zd_|refine zs_ ?_ GE108.out)|exact HB.out)⟩⟩
 case rest =>
  clear HC3
  try clear p2
  try clear c4
  try clear c6
  try clear c6b0
  try clear c6b1
  try clear hcz8_0
  try clear hcz8_1
  try clear hcz8_2
  try clear hcz8_3
  try clear hcz9_0
  try clear hcz9_1
  try clear hcz9_2
  try clear hcz9_3
  try clear hfz8_0
  try clear hfz8_1
  try clear hfz8_2
  try clear hfz8_3
  try clear hfz9_0
  try clear hfz9_1
  try clear hfz9_2
  try clear hfz9_3
  obtain ⟨kq,x20_2,rfl,HA,HJ2,BK108,HB⟩:=hcut
  cases kq with
  |zero => exact absurd HA.out (by simp [impl_exNodeOk.j0])
  |succ kj2 =>
   have H:=HA.out
   clear HA
   simp only [impl_exNodeOk.j0] at H
   by_cases c10 : x20_2 = true
   ·subst c10
    have H1 : (some false) = some r:=by rw [if_pos rfl] at H;exact H
    clear H
    have H:=H1
    clear H1
    obtain rfl:=Option.some.inj H
    go_wp2
    repeat (go_quiet (fail);try go_wp2)
    go_ret
    exact ⟨by first|rfl|(simp [errW_none,errW_some] <;> rfl)|(simp [*,errW_none,errW_some] <;> rfl),by repeat (first|(with_reducible first|exact HB.out|apply za_|apply zn_|apply zd_|refine zs_ ?_ GE108.out)|exact HB.out)⟩
   ·replace c10:=Bool.eq_false_iff.mpr c10
    subst c10
    have H1 : (if a0_1 = 0 then (if a0_2.toList = ([] : List UInt8) then (if a0_0 = 2 then ((impl_VarName.f kj2 a0_2).bind fun t111 => (some t111)) else (some true)) else (if a0_0 = 2 then ((impl_VarName.f kj2 a0_2).bind fun t112 => (some t112)) else (some false))) else (if a0_0 = 1 then ((impl_within.f a0_1 0 99).bind fun t113 => (if a0_2.toList = ([] : List UInt8) then (if a0_0 = 2 then ((impl_VarName.f kj2 a0_2).bind fun t114 => (if t113 = true then (some t114) else (some false))) else (if t113 = true then (some true) else (some false))) else (if a0_0 = 2 then ((impl_VarName.f kj2 a0_2).bind fun t115 => (if t113 = true then (some t115) else (some false))) else (if t113 = true then (some false) else (some false))))) else (if a0_2.toList = ([] : List UInt8) then (if a0_0 = 2 then ((impl_VarName.f kj2 a0_2).bind fun t116 => (some false)) else (some false)) else (if a0_0 = 2 then ((impl_VarName.f kj2 a0_2).bind fun t117 => (some false)) else (some false))))) = some r:=by rw [if_neg (show ¬ (false = true) by decide)] at H;exact H
    clear H
    have H:=H1
    clear H1
    by_cases c11 : a0_1 = 0
    ·rw [if_pos c11] at H
     have c11b0 : (a0_1 == 0) = true:=beq_iff_eq.mpr c11
     have c11b1 : (a0_1 != 0) = false:=bne_eq_false_iff_eq.mpr c11
     clear c11
     by_cases c12 : a0_2.toList = ([] : List UInt8)
     ·rw [if_pos c12] at H
      have c12b0 : (a0_2.toList == ([] : List UInt8)) = true:=beq_iff_eq.mpr c12
      have c12b1 : (a0_2.toList != ([] : List UInt8)) = false:=bne_eq_false_iff_eq.mpr c12
      clear c12
      by_cases c13 : a0_0 = 2
      ·rw [if_pos c13] at H
       have c13b0 : (a0_0 == 2) = true:=beq_iff_eq.mpr c13
       have c13b1 : (a0_0 != 2) = false:=bne_eq_false_iff_eq.mpr c13
       clear c13
       replace H:=Option.bind_eq_some_iff.mp H
       obtain ⟨t111,A140,H⟩:=H
       replace H : (some t111) = some r:=H
       have A14:=zm_ A140
       clear A140
       obtain rfl:=Option.some.inj H
       have hcz15_0 : wc.cell? ⟨gb108,0,none⟩ = some (.int .i64 a0_0):=(zc_ BK108.out 0).trans rfl
       have hcz15_1 : wc.cell? ⟨gb108,1,none⟩ = some (.int .i64 a0_1):=(zc_ BK108.out 1).trans rfl
       have hcz15_2 : wc.cell? ⟨gb108,2,none⟩ = some (.string a0_2):=(zc_ BK108.out 2).trans rfl
       have hcz15_3 : wc.cell? ⟨gb108,3,none⟩ = some (.slice A0_3 l0_3.length c0_3):=(zc_ BK108.out 3).trans rfl
       have hfz15_0:=zf_ BK108.out 0
       have hfz15_1:=zf_ BK108.out 1
       have hfz15_2:=zf_ BK108.out 2
       have hfz15_3:=zf_ BK108.out 3
       go_wp2_with (first|(go_at_call 81;(with_reducible refine (impl_VarName.calls kj2 a0_2 t111 _ A14.out).mono ?_);rintro e w' ⟨rfl,⟨nd,rfl⟩⟩;(try first|exact ⟨rfl,_,zw_ _ _ _⟩|exact ⟨rfl,_,Eq.trans (zw_ _ _ _) (congrArg (World.drewN _) (Nat.add_assoc _ _ _))⟩)))
       repeat (go_quiet (first|(go_at_call 81;(with_reducible refine (impl_VarName.calls kj2 a0_2 t111 _ A14.out).mono ?_);rintro e w' ⟨rfl,⟨nd,rfl⟩⟩;(try first|exact ⟨rfl,_,zw_ _ _ _⟩|exact ⟨rfl,_,Eq.trans (zw_ _ _ _) (congrArg (World.drewN _) (Nat.add_assoc _ _ _))⟩)));try go_wp2_with (first|(go_at_call 81;(with_reducible refine (impl_VarName.calls kj2 a0_2 t111 _ A14.out).mono ?_);rintro e w' ⟨rfl,⟨nd,rfl⟩⟩;(try first|exact ⟨rfl,_,zw_ _ _ _⟩|exact ⟨rfl,_,Eq.trans (zw_ _ _ _) (congrArg (World.drewN _) (Nat.add_assoc _ _ _))⟩))))
       go_ret
       exact ⟨by first|rfl|(simp [errW_none,errW_some] <;> rfl)|(simp [*,errW_none,errW_some] <;> rfl),by repeat (first|(with_reducible first|exact HB.out|apply za_|apply zn_|apply zd_|refine zs_ ?_ GE108.out)|exact HB.out)⟩
      ·rw [if_neg c13] at H
       have c13b0 : (a0_0 == 2) = false:=beq_eq_false_iff_ne.mpr c13
       have c13b1 : (a0_0 != 2) = true:=bne_iff_ne.mpr c13
       obtain rfl:=Option.some.inj H
       have hcz16_0 : wc.cell? ⟨gb108,0,none⟩ = some (.int .i64 a0_0):=(zc_ BK108.out 0).trans rfl
       have hcz16_1 : wc.cell? ⟨gb108,1,none⟩ = some (.int .i64 a0_1):=(zc_ BK108.out 1).trans rfl
       have hcz16_2 : wc.cell? ⟨gb108,2,none⟩ = some (.string a0_2):=(zc_ BK108.out 2).trans rfl
       have hcz16_3 : wc.cell? ⟨gb108,3,none⟩ = some (.slice A0_3 l0_3.length c0_3):=(zc_ BK108.out 3).trans rfl
       have hfz16_0:=zf_ BK108.out 0
       have hfz16_1:=zf_ BK108.out 1
       have hfz16_2:=zf_ BK108.out 2
       have hfz16_3:=zf_ BK108.out 3
       go_wp2
       repeat (go_quiet (fail);try go_wp2)
       go_ret
       exact ⟨by first|rfl|(simp [errW_none,errW_some] <;> rfl)|(simp [*,errW_none,errW_some] <;> rfl),by repeat (first|(with_reducible first|exact HB.out|apply za_|apply zn_|apply zd_|refine zs_ ?_ GE108.out)|exact HB.out)⟩
     ·rw [if_neg c12] at H
      have c12b0 : (a0_2.toList == ([] : List UInt8)) = false:=beq_eq_false_iff_ne.mpr c12
      have c12b1 : (a0_2.toList != ([] : List UInt8)) = true:=bne_iff_ne.mpr c12
      by_cases c17 : a0_0 = 2
      ·rw [if_pos c17] at H
       have c17b0 : (a0_0 == 2) = true:=beq_iff_eq.mpr c17
       have c17b1 : (a0_0 != 2) = false:=bne_eq_false_iff_eq.mpr c17
       clear c17
       replace H:=Option.bind_eq_some_iff.mp H
       obtain ⟨t112,A180,H⟩:=H
       replace H : (some t112) = some r:=H
       have A18:=zm_ A180
       clear A180
       obtain rfl:=Option.some.inj H
       have hcz19_0 : wc.cell? ⟨gb108,0,none⟩ = some (.int .i64 a0_0):=(zc_ BK108.out 0).trans rfl
       have hcz19_1 : wc.cell? ⟨gb108,1,none⟩ = some (.int .i64 a0_1):=(zc_ BK108.out 1).trans rfl
       have hcz19_2 : wc.cell? ⟨gb108,2,none⟩ = some (.string a0_2):=(zc_ BK108.out 2).trans rfl
       have hcz19_3 : wc.cell? ⟨gb108,3,none⟩ = some (.slice A0_3 l0_3.length c0_3):=(zc_ BK108.out 3).trans rfl
       have hfz19_0:=zf_ BK108.out 0
       have hfz19_1:=zf_ BK108.out 1
       have hfz19_2:=zf_ BK108.out 2
       have hfz19_3:=zf_ BK108.out 3
       go_wp2_with (first|(go_at_call 81;(with_reducible refine (impl_VarName.calls kj2 a0_2 t112 _ A18.out).mono ?_);rintro e w' ⟨rfl,⟨nd,rfl⟩⟩;(try first|exact ⟨rfl,_,zw_ _ _ _⟩|exact ⟨rfl,_,Eq.trans (zw_ _ _ _) (congrArg (World.drewN _) (Nat.add_assoc _ _ _))⟩)))
       repeat (go_quiet (first|(go_at_call 81;(with_reducible refine (impl_VarName.calls kj2 a0_2 t112 _ A18.out).mono ?_);rintro e w' ⟨rfl,⟨nd,rfl⟩⟩;(try first|exact ⟨rfl,_,zw_ _ _ _⟩|exact ⟨rfl,_,Eq.trans (zw_ _ _ _) (congrArg (World.drewN _) (Nat.add_assoc _ _ _))⟩)));try go_wp2_with (first|(go_at_call 81;(with_reducible refine (impl_VarName.calls kj2 a0_2 t112 _ A18.out).mono ?_);rintro e w' ⟨rfl,⟨nd,rfl⟩⟩;(try first|exact ⟨rfl,_,zw_ _ _ _⟩|exact ⟨rfl,_,Eq.trans (zw_ _ _ _) (congrArg (World.drewN _) (Nat.add_assoc _ _ _))⟩))))
       go_ret
       exact ⟨by first|rfl|(simp [errW_none,errW_some] <;> rfl)|(simp [*,errW_none,errW_some] <;> rfl),by repeat (first|(with_reducible first|exact HB.out|apply za_|apply zn_|apply zd_|refine zs_ ?_ GE108.out)|exact HB.out)⟩
      ·rw [if_neg c17] at H
       have c17b0 : (a0_0 == 2) = false:=beq_eq_false_iff_ne.mpr c17
       have c17b1 : (a0_0 != 2) = true:=bne_iff_ne.mpr c17
       obtain rfl:=Option.some.inj H
       have hcz20_0 : wc.cell? ⟨gb108,0,none⟩ = some (.int .i64 a0_0):=(zc_ BK108.out 0).trans rfl
       have hcz20_1 : wc.cell? ⟨gb108,1,none⟩ = some (.int .i64 a0_1):=(zc_ BK108.out 1).trans rfl
       have hcz20_2 : wc.cell? ⟨gb108,2,none⟩ = some (.string a0_2):=(zc_ BK108.out 2).trans rfl
       have hcz20_3 : wc.cell? ⟨gb108,3,none⟩ = some (.slice A0_3 l0_3.length c0_3):=(zc_ BK108.out 3).trans rfl
       have hfz20_0:=zf_ BK108.out 0
       have hfz20_1:=zf_ BK108.out 1
       have hfz20_2:=zf_ BK108.out 2
       have hfz20_3:=zf_ BK108.out 3
       go_wp2
       repeat (go_quiet (fail);try go_wp2)
       go_ret
       exact ⟨by first|rfl|(simp [errW_none,errW_some] <;> rfl)|(simp [*,errW_none,errW_some] <;> rfl),by repeat (first|(with_reducible first|exact HB.out|apply za_|apply zn_|apply zd_|refine zs_ ?_ GE108.out)|exact HB.out)⟩
    ·rw [if_neg c11] at H
     have c11b0 : (a0_1 == 0) = false:=beq_eq_false_iff_ne.mpr c11
     have c11b1 : (a0_1 != 0) = true:=bne_iff_ne.mpr c11
     by_cases c21 : a0_0 = 1
     ·rw [if_pos c21] at H
      have c21b0 : (a0_0 == 1) = true:=beq_iff_eq.mpr c21
      have c21b1 : (a0_0 != 1) = false:=bne_eq_false_iff_eq.mpr c21
      clear c21
      replace H:=Option.bind_eq_some_iff.mp H
      obtain ⟨t113,A220,H⟩:=H
      replace H : (if a0_2.toList = ([] : List UInt8) then (if a0_0 = 2 then ((impl_VarName.f kj2 a0_2).bind fun t114 => (if t113 = true then (some t114) else (some false))) else (if t113 = true then (some true) else (some false))) else (if a0_0 = 2 then ((impl_VarName.f kj2 a0_2).bind fun t115 => (if t113 = true then (some t115) else (some false))) else (if t113 = true then (some false) else (some false)))) = some r:=H
      have A22:=zm_ A220
      clear A220
      by_cases c23 : a0_2.toList = ([] : List UInt8)
      ·rw [if_pos c23] at H
       have c23b0 : (a0_2.toList == ([] : List UInt8)) = true:=beq_iff_eq.mpr c23
       have c23b1 : (a0_2.toList != ([] : List UInt8)) = false:=bne_eq_false_iff_eq.mpr c23
       clear c23
       by_cases c24 : a0_0 = 2
       ·rw [if_pos c24] at H
        have c24b0 : (a0_0 == 2) = true:=beq_iff_eq.mpr c24
        have c24b1 : (a0_0 != 2) = false:=bne_eq_false_iff_eq.mpr c24
        clear c24
        replace H:=Option.bind_eq_some_iff.mp H
        obtain ⟨t114,A250,H⟩:=H
        replace H : (if t113 = true then (some t114) else (some false)) = some r:=H
        have A25:=zm_ A250
        clear A250
        by_cases c26 : t113 = true
        ·subst c26
         have H1 : (some t114) = some r:=by rw [if_pos rfl] at H;exact H
         clear H
         have H:=H1
         clear H1
         obtain rfl:=Option.some.inj H
         have hcz27_0 : wc.cell? ⟨gb108,0,none⟩ = some (.int .i64 a0_0):=(zc_ BK108.out 0).trans rfl
         have hcz27_1 : wc.cell? ⟨gb108,1,none⟩ = some (.int .i64 a0_1):=(zc_ BK108.out 1).trans rfl
         have hcz27_2 : wc.cell? ⟨gb108,2,none⟩ = some (.string a0_2):=(zc_ BK108.out 2).trans rfl
         have hcz27_3 : wc.cell? ⟨gb108,3,none⟩ = some (.slice A0_3 l0_3.length c0_3):=(zc_ BK108.out 3).trans rfl
         have hfz27_0:=zf_ BK108.out 0
         have hfz27_1:=zf_ BK108.out 1
         have hfz27_2:=zf_ BK108.out 2
         have hfz27_3:=zf_ BK108.out 3
         go_wp2_with (first|(go_at_call 49;(with_reducible refine (impl_within.calls a0_1 0 99 true _ A22.out).mono ?_);rintro e w' ⟨rfl,⟨nd,rfl⟩⟩;(try first|exact ⟨rfl,_,zw_ _ _ _⟩|exact ⟨rfl,_,Eq.trans (zw_ _ _ _) (congrArg (World.drewN _) (Nat.add_assoc _ _ _))⟩))|(go_at_call 81;(with_reducible refine (impl_VarName.calls kj2 a0_2 t114 _ A25.out).mono ?_);rintro e w' ⟨rfl,⟨nd,rfl⟩⟩;(try first|exact ⟨rfl,_,zw_ _ _ _⟩|exact ⟨rfl,_,Eq.trans (zw_ _ _ _) (congrArg (World.drewN _) (Nat.add_assoc _ _ _))⟩)))
         repeat (go_quiet (first|(go_at_call 49;(with_reducible refine (impl_within.calls a0_1 0 99 true _ A22.out).mono ?_);rintro e w' ⟨rfl,⟨nd,rfl⟩⟩;(try first|exact ⟨rfl,_,zw_ _ _ _⟩|exact ⟨rfl,_,Eq.trans (zw_ _ _ _) (congrArg (World.drewN _) (Nat.add_assoc _ _ _))⟩))|(go_at_call 81;(with_reducible refine (impl_VarName.calls kj2 a0_2 t114 _ A25.out).mono ?_);rintro e w' ⟨rfl,⟨nd,rfl⟩⟩;(try first|exact ⟨rfl,_,zw_ _ _ _⟩|exact ⟨rfl,_,Eq.trans (zw_ _ _ _) (congrArg (World.drewN _) (Nat.add_assoc _ _ _))⟩)));try go_wp2_with (first|(go_at_call 49;(with_reducible refine (impl_within.calls a0_1 0 99 true _ A22.out).mono ?_);rintro e w' ⟨rfl,⟨nd,rfl⟩⟩;(try first|exact ⟨rfl,_,zw_ _ _ _⟩|exact ⟨rfl,_,Eq.trans (zw_ _ _ _) (congrArg (World.drewN _) (Nat.add_assoc _ _ _))⟩))|(go_at_call 81;(with_reducible refine (impl_VarName.calls kj2 a0_2 t114 _ A25.out).mono ?_);rintro e w' ⟨rfl,⟨nd,rfl⟩⟩;(try first|exact ⟨rfl,_,zw_ _ _ _⟩|exact ⟨rfl,_,Eq.trans (zw_ _ _ _) (congrArg (World.drewN _) (Nat.add_assoc _ _ _))⟩))))
         go_ret
         exact ⟨by first|rfl|(simp [errW_none,errW_some] <;> rfl)|(simp [*,errW_none,errW_some] <;> rfl),by repeat (first|(with_reducible first|exact HB.out|apply za_|apply zn_|apply zd_|refine zs_ ?_ GE108.out)|exact HB.out)⟩
        ·replace c26:=Bool.eq_false_iff.mpr c26
         subst c26
         have H1 : (some false) = some r:=by rw [if_neg (show ¬ (false = true) by decide)] at H;exact H
         clear H
         have H:=H1
         clear H1
         obtain rfl:=Option.some.inj H
         have hcz28_0 : wc.cell? ⟨gb108,0,none⟩ = some (.int .i64 a0_0):=(zc_ BK108.out 0).trans rfl
         have hcz28_1 : wc.cell? ⟨gb108,1,none⟩ = some (.int .i64 a0_1):=(zc_ BK108.out 1).trans rfl
         have hcz28_2 : wc.cell? ⟨gb108,2,none⟩ = some (.string a0_2):=(zc_ BK108.out 2).trans rfl
         have hcz28_3 : wc.cell? ⟨gb108,3,none⟩ = some (.slice A0_3 l0_3.length c0_3):=(zc_ BK108.out 3).trans rfl
         have hfz28_0:=zf_ BK108.out 0
         have hfz28_1:=zf_ BK108.out 1
         have hfz28_2:=zf_ BK108.out 2
         have hfz28_3:=zf_ BK108.out 3
         go_wp2_with (first|(go_at_call 49;(with_reducible refine (impl_within.calls a0_1 0 99 false _ A22.out).mono ?_);rintro e w' ⟨rfl,⟨nd,rfl⟩⟩;(try first|exact ⟨rfl,_,zw_ _ _ _⟩|exact ⟨rfl,_,Eq.trans (zw_ _ _ _) (congrArg (World.drewN _) (Nat.add_assoc _ _ _))⟩))|(go_at_call 81;(with_reducible refine (impl_VarName.calls kj2 a0_2 t114 _ A25.out).mono ?_);rintro e w' ⟨rfl,⟨nd,rfl⟩⟩;(try first|exact ⟨rfl,_,zw_ _ _ _⟩|exact ⟨rfl,_,Eq.trans (zw_ _ _ _) (congrArg (World.drewN _) (Nat.add_assoc _ _ _))⟩)))
         repeat (go_quiet (first|(go_at_call 49;(with_reducible refine (impl_within.calls a0_1 0 99 false _ A22.out).mono ?_);rintro e w' ⟨rfl,⟨nd,rfl⟩⟩;(try first|exact ⟨rfl,_,zw_ _ _ _⟩|exact ⟨rfl,_,Eq.trans (zw_ _ _ _) (congrArg (World.drewN _) (Nat.add_assoc _ _ _))⟩))|(go_at_call 81;(with_reducible refine (impl_VarName.calls kj2 a0_2 t114 _ A25.out).mono ?_);rintro e w' ⟨rfl,⟨nd,rfl⟩⟩;(try first|exact ⟨rfl,_,zw_ _ _ _⟩|exact ⟨rfl,_,Eq.trans (zw_ _ _ _) (congrArg (World.drewN _) (Nat.add_assoc _ _ _))⟩)));try go_wp2_with (first|(go_at_call 49;(with_reducible refine (impl_within.calls a0_1 0 99 false _ A22.out).mono ?_);rintro e w' ⟨rfl,⟨nd,rfl⟩⟩;(try first|exact ⟨rfl,_,zw_ _ _ _⟩|exact ⟨rfl,_,Eq.trans (zw_ _ _ _) (congrArg (World.drewN _) (Nat.add_assoc _ _ _))⟩))|(go_at_call 81;(with_reducible refine (impl_VarName.calls kj2 a0_2 t114 _ A25.out).mono ?_);rintro e w' ⟨rfl,⟨nd,rfl⟩⟩;(try first|exact ⟨rfl,_,zw_ _ _ _⟩|exact ⟨rfl,_,Eq.trans (zw_ _ _ _) (congrArg (World.drewN _) (Nat.add_assoc _ _ _))⟩))))
         go_ret
         exact ⟨by first|rfl|(simp [errW_none,errW_some] <;> rfl)|(simp [*,errW_none,errW_some] <;> rfl),by repeat (first|(with_reducible first|exact HB.out|apply za_|apply zn_|apply zd_|refine zs_ ?_ GE108.out)|exact HB.out)⟩
       ·rw [if_neg c24] at H
        have c24b0 : (a0_0 == 2) = false:=beq_eq_false_iff_ne.mpr c24
        have c24b1 : (a0_0 != 2) = true:=bne_iff_ne.mpr c24
        by_cases c29 : t113 = true
        ·subst c29
         have H1 : (some true) = some r:=by rw [if_pos rfl] at H;exact H
         clear H
         have H:=H1
         clear H1
         obtain rfl:=Option.some.inj H
         have hcz30_0 : wc.cell? ⟨gb108,0,none⟩ = some (.int .i64 a0_0):=(zc_ BK108.out 0).trans rfl
         have hcz30_1 : wc.cell? ⟨gb108,1,none⟩ = some (.int .i64 a0_1):=(zc_ BK108.out 1).trans rfl
         have hcz30_2 : wc.cell? ⟨gb108,2,none⟩ = some (.string a0_2):=(zc_ BK108.out 2).trans rfl
         have hcz30_3 : wc.cell? ⟨gb108,3,none⟩ = some (.slice A0_3 l0_3.length c0_3):=(zc_ BK108.out 3).trans rfl
         have hfz30_0:=zf_ BK108.out 0
         have hfz30_1:=zf_ BK108.out 1
         have hfz30_2:=zf_ BK108.out 2
         have hfz30_3:=zf_ BK108.out 3
         go_wp2_with (first|(go_at_call 49;(with_reducible refine (impl_within.calls a0_1 0 99 true _ A22.out).mono ?_);rintro e w' ⟨rfl,⟨nd,rfl⟩⟩;(try first|exact ⟨rfl,_,zw_ _ _ _⟩|exact ⟨rfl,_,Eq.trans (zw_ _ _ _) (congrArg (World.drewN _) (Nat.add_assoc _ _ _))⟩)))
         repeat (go_quiet (first|(go_at_call 49;(with_reducible refine (impl_within.calls a0_1 0 99 true _ A22.out).mono ?_);rintro e w' ⟨rfl,⟨nd,rfl⟩⟩;(try first|exact ⟨rfl,_,zw_ _ _ _⟩|exact ⟨rfl,_,Eq.trans (zw_ _ _ _) (congrArg (World.drewN _) (Nat.add_assoc _ _ _))⟩)));try go_wp2_with (first|(go_at_call 49;(with_reducible refine (impl_within.calls a0_1 0 99 true _ A22.out).mono ?_);rintro e w' ⟨rfl,⟨nd,rfl⟩⟩;(try first|exact ⟨rfl,_,zw_ _ _ _⟩|exact ⟨rfl,_,Eq.trans (zw_ _ _ _) (congrArg (World.drewN _) (Nat.add_assoc _ _ _))⟩))))
         go_ret
         exact ⟨by first|rfl|(simp [errW_none,errW_some] <;> rfl)|(simp [*,errW_none,errW_some] <;> rfl),by repeat (first|(with_reducible first|exact HB.out|apply za_|apply zn_|apply zd_|refine zs_ ?_ GE108.out)|exact HB.out)⟩
        ·replace c29:=Bool.eq_false_iff.mpr c29
         subst c29
         have H1 : (some false) = some r:=by rw [if_neg (show ¬ (false = true) by decide)] at H;exact H
         clear H
         have H:=H1
         clear H1
         obtain rfl:=Option.some.inj H
         have hcz31_0 : wc.cell? ⟨gb108,0,none⟩ = some (.int .i64 a0_0):=(zc_ BK108.out 0).trans rfl
         have hcz31_1 : wc.cell? ⟨gb108,1,none⟩ = some (.int .i64 a0_1):=(zc_ BK108.out 1).trans rfl
         have hcz31_2 : wc.cell? ⟨gb108,2,none⟩ = some (.string a0_2):=(zc_ BK108.out 2).trans rfl
         have hcz31_3 : wc.cell? ⟨gb108,3,none⟩ = some (.slice A0_3 l0_3.length c0_3):=(zc_ BK108.out 3).trans rfl
         have hfz31_0:=zf_ BK108.out 0
         have hfz31_1:=zf_ BK108.out 1
         have hfz31_2:=zf_ BK108.out 2
         have hfz31_3:=zf_ BK108.out 3
         go_wp2_with (first|(go_at_call 49;(with_reducible refine (impl_within.calls a0_1 0 99 false _ A22.out).mono ?_);rintro e w' ⟨rfl,⟨nd,rfl⟩⟩;(try first|exact ⟨rfl,_,zw_ _ _ _⟩|exact ⟨rfl,_,Eq.trans (zw_ _ _ _) (congrArg (World.drewN _) (Nat.add_assoc _ _ _))⟩)))
         repeat (go_quiet (first|(go_at_call 49;(with_reducible refine (impl_within.calls a0_1 0 99 false _ A22.out).mono ?_);rintro e w' ⟨rfl,⟨nd,rfl⟩⟩;(try first|exact ⟨rfl,_,zw_ _ _ _⟩|exact ⟨rfl,_,Eq.trans (zw_ _ _ _) (congrArg (World.drewN _) (Nat.add_assoc _ _ _))⟩)));try go_wp2_with (first|(go_at_call 49;(with_reducible refine (impl_within.calls a0_1 0 99 false _ A22.out).mono ?_);rintro e w' ⟨rfl,⟨nd,rfl⟩⟩;(try first|exact ⟨rfl,_,zw_ _ _ _⟩|exact ⟨rfl,_,Eq.trans (zw_ _ _ _) (congrArg (World.drewN _) (Nat.add_assoc _ _ _))⟩))))
         go_ret
         exact ⟨by first|rfl|(simp [errW_none,errW_some] <;> rfl)|(simp [*,errW_none,errW_some] <;> rfl),by repeat (first|(with_reducible first|exact HB.out|apply za_|apply zn_|apply zd_|refine zs_ ?_ GE108.out)|exact HB.out)⟩
      ·rw [if_neg c23] at H
       have c23b0 : (a0_2.toList == ([] : List UInt8)) = false:=beq_eq_false_iff_ne.mpr c23
       have c23b1 : (a0_2.toList != ([] : List UInt8)) = true:=bne_iff_ne.mpr c23
       by_cases c32 : a0_0 = 2
       ·rw [if_pos c32] at H
        have c32b0 : (a0_0 == 2) = true:=beq_iff_eq.mpr c32
        have c32b1 : (a0_0 != 2) = false:=bne_eq_false_iff_eq.mpr c32
        clear c32
        replace H:=Option.bind_eq_some_iff.mp H
        obtain ⟨t115,A330,H⟩:=H
        replace H : (if t113 = true then (some t115) else (some false)) = some r:=H
        have A33:=zm_ A330
        clear A330
        by_cases c34 : t113 = true
        ·subst c34
         have H1 : (some t115) = some r:=by rw [if_pos rfl] at H;exact H
         clear H
         have H:=H1
         clear H1
         obtain rfl:=Option.some.inj H
         have hcz35_0 : wc.cell? ⟨gb108,0,none⟩ = some (.int .i64 a0_0):=(zc_ BK108.out 0).trans rfl
         have hcz35_1 : wc.cell? ⟨gb108,1,none⟩ = some (.int .i64 a0_1):=(zc_ BK108.out 1).trans rfl
         have hcz35_2 : wc.cell? ⟨gb108,2,none⟩ = some (.string a0_2):=(zc_ BK108.out 2).trans rfl
         have hcz35_3 : wc.cell? ⟨gb108,3,none⟩ = some (.slice A0_3 l0_3.length c0_3):=(zc_ BK108.out 3).trans rfl
         have hfz35_0:=zf_ BK108.out 0
         have hfz35_1:=zf_ BK108.out 1
         have hfz35_2:=zf_ BK108.out 2
         have hfz35_3:=zf_ BK108.out 3
         go_wp2_with (first|(go_at_call 49;(with_reducible refine (impl_within.calls a0_1 0 99 true _ A22.out).mono ?_);rintro e w' ⟨rfl,⟨nd,rfl⟩⟩;(try first|exact ⟨rfl,_,zw_ _ _ _⟩|exact ⟨rfl,_,Eq.trans (zw_ _ _ _) (congrArg (World.drewN _) (Nat.add_assoc _ _ _))⟩))|(go_at_call 81;(with_reducible refine (impl_VarName.calls kj2 a0_2 t115 _ A33.out).mono ?_);rintro e w' ⟨rfl,⟨nd,rfl⟩⟩;(try first|exact ⟨rfl,_,zw_ _ _ _⟩|exact ⟨rfl,_,Eq.trans (zw_ _ _ _) (congrArg (World.drewN _) (Nat.add_assoc _ _ _))⟩)))
         repeat (go_quiet (first|(go_at_call 49;(with_reducible refine (impl_within.calls a0_1 0 99 true _ A22.out).mono ?_);rintro e w' ⟨rfl,⟨nd,rfl⟩⟩;(try first|exact ⟨rfl,_,zw_ _ _ _⟩|exact ⟨rfl,_,Eq.trans (zw_ _ _ _) (congrArg (World.drewN _) (Nat.add_assoc _ _ _))⟩))|(go_at_call 81;(with_reducible refine (impl_VarName.calls kj2 a0_2 t115 _ A33.out).mono ?_);rintro e w' ⟨rfl,⟨nd,rfl⟩⟩;(try first|exact ⟨rfl,_,zw_ _ _ _⟩|exact ⟨rfl,_,Eq.trans (zw_ _ _ _) (congrArg (World.drewN _) (Nat.add_assoc _ _ _))⟩)));try go_wp2_with (first|(go_at_call 49;(with_reducible refine (impl_within.calls a0_1 0 99 true _ A22.out).mono ?_);rintro e w' ⟨rfl,⟨nd,rfl⟩⟩;(try first|exact ⟨rfl,_,zw_ _ _ _⟩|exact ⟨rfl,_,Eq.trans (zw_ _ _ _) (congrArg (World.drewN _) (Nat.add_assoc _ _ _))⟩))|(go_at_call 81;(with_reducible refine (impl_VarName.calls kj2 a0_2 t115 _ A33.out).mono ?_);rintro e w' ⟨rfl,⟨nd,rfl⟩⟩;(try first|exact ⟨rfl,_,zw_ _ _ _⟩|exact ⟨rfl,_,Eq.trans (zw_ _ _ _) (congrArg (World.drewN _) (Nat.add_assoc _ _ _))⟩))))
         go_ret
         exact ⟨by first|rfl|(simp [errW_none,errW_some] <;> rfl)|(simp [*,errW_none,errW_some] <;> rfl),by repeat (first|(with_reducible first|exact HB.out|apply za_|apply zn_|apply zd_|refine zs_ ?_ GE108.out)|exact HB.out)⟩
        ·replace c34:=Bool.eq_false_iff.mpr c34
         subst c34
         have H1 : (some false) = some r:=by rw [if_neg (show ¬ (false = true) by decide)] at H;exact H
         clear H
         have H:=H1
         clear H1
         obtain rfl:=Option.some.inj H
         have hcz36_0 : wc.cell? ⟨gb108,0,none⟩ = some (.int .i64 a0_0):=(zc_ BK108.out 0).trans rfl
         have hcz36_1 : wc.cell? ⟨gb108,1,none⟩ = some (.int .i64 a0_1):=(zc_ BK108.out 1).trans rfl
         have hcz36_2 : wc.cell? ⟨gb108,2,none⟩ = some (.string a0_2):=(zc_ BK108.out 2).trans rfl
         have hcz36_3 : wc.cell? ⟨gb108,3,none⟩ = some (.slice A0_3 l0_3.length c0_3):=(zc_ BK108.out 3).trans rfl
         have hfz36_0:=zf_ BK108.out 0
         have hfz36_1:=zf_ BK108.out 1
         have hfz36_2:=zf_ BK108.out 2
         have hfz36_3:=zf_ BK108.out 3
         go_wp2_with (first|(go_at_call 49;(with_reducible refine (impl_within.calls a0_1 0 99 false _ A22.out).mono ?_);rintro e w' ⟨rfl,⟨nd,rfl⟩⟩;(try first|exact ⟨rfl,_,zw_ _ _ _⟩|exact ⟨rfl,_,Eq.trans (zw_ _ _ _) (congrArg (World.drewN _) (Nat.add_assoc _ _ _))⟩))|(go_at_call 81;(with_reducible refine (impl_VarName.calls kj2 a0_2 t115 _ A33.out).mono ?_);rintro e w' ⟨rfl,⟨nd,rfl⟩⟩;(try first|exact ⟨rfl,_,zw_ _ _ _⟩|exact ⟨rfl,_,Eq.trans (zw_ _ _ _) (congrArg (World.drewN _) (Nat.add_assoc _ _ _))⟩)))
         repeat (go_quiet (first|(go_at_call 49;(with_reducible refine (impl_within.calls a0_1 0 99 false _ A22.out).mono ?_);rintro e w' ⟨rfl,⟨nd,rfl⟩⟩;(try first|exact ⟨rfl,_,zw_ _ _ _⟩|exact ⟨rfl,_,Eq.trans (zw_ _ _ _) (congrArg (World.drewN _) (Nat.add_assoc _ _ _))⟩))|(go_at_call 81;(with_reducible refine (impl_VarName.calls kj2 a0_2 t115 _ A33.out).mono ?_);rintro e w' ⟨rfl,⟨nd,rfl⟩⟩;(try first|exact ⟨rfl,_,zw_ _ _ _⟩|exact ⟨rfl,_,Eq.trans (zw_ _ _ _) (congrArg (World.drewN _) (Nat.add_assoc _ _ _))⟩)));try go_wp2_with (first|(go_at_call 49;(with_reducible refine (impl_within.calls a0_1 0 99 false _ A22.out).mono ?_);rintro e w' ⟨rfl,⟨nd,rfl⟩⟩;(try first|exact ⟨rfl,_,zw_ _ _ _⟩|exact ⟨rfl,_,Eq.trans (zw_ _ _ _) (congrArg (World.drewN _) (Nat.add_assoc _ _ _))⟩))|(go_at_call 81;(with_reducible refine (impl_VarName.calls kj2 a0_2 t115 _ A33.out).mono ?_);rintro e w' ⟨rfl,⟨nd,rfl⟩⟩;(try first|exact ⟨rfl,_,zw_ _ _ _⟩|exact ⟨rfl,_,Eq.trans (zw_ _ _ _) (congrArg (World.drewN _) (Nat.add_assoc _ _ _))⟩))))
         go_ret
         exact ⟨by first|rfl|(simp [errW_none,errW_some] <;> rfl)|(simp [*,errW_none,errW_some] <;> rfl),by repeat (first|(with_reducible first|exact HB.out|apply za_|apply zn_|apply zd_|refine zs_ ?_ GE108.out)|exact HB.out)⟩
       ·rw [if_neg c32] at H
        have c32b0 : (a0_0 == 2) = false:=beq_eq_false_iff_ne.mpr c32
        have c32b1 : (a0_0 != 2) = true:=bne_iff_ne.mpr c32
        by_cases c37 : t113 = true
        ·subst c37
         have H1 : (some false) = some r:=by rw [if_pos rfl] at H;exact H
         clear H
         have H:=H1
         clear H1
         obtain rfl:=Option.some.inj H
         have hcz38_0 : wc.cell? ⟨gb108,0,none⟩ = some (.int .i64 a0_0):=(zc_ BK108.out 0).trans rfl
         have hcz38_1 : wc.cell? ⟨gb108,1,none⟩ = some (.int .i64 a0_1):=(zc_ BK108.out 1).trans rfl
         have hcz38_2 : wc.cell? ⟨gb108,2,none⟩ = some (.string a0_2):=(zc_ BK108.out 2).trans rfl
         have hcz38_3 : wc.cell? ⟨gb108,3,none⟩ = some (.slice A0_3 l0_3.length c0_3):=(zc_ BK108.out 3).trans rfl
         have hfz38_0:=zf_ BK108.out 0
         have hfz38_1:=zf_ BK108.out 1
         have hfz38_2:=zf_ BK108.out 2
         have hfz38_3:=zf_ BK108.out 3
         go_wp2_with (first|(go_at_call 49;(with_reducible refine (impl_within.calls a0_1 0 99 true _ A22.out).mono ?_);rintro e w' ⟨rfl,⟨nd,rfl⟩⟩;(try first|exact ⟨rfl,_,zw_ _ _ _⟩|exact ⟨rfl,_,Eq.trans (zw_ _ _ _) (congrArg (World.drewN _) (Nat.add_assoc _ _ _))⟩)))
         repeat (go_quiet (first|(go_at_call 49;(with_reducible refine (impl_within.calls a0_1 0 99 true _ A22.out).mono ?_);rintro e w' ⟨rfl,⟨nd,rfl⟩⟩;(try first|exact ⟨rfl,_,zw_ _ _ _⟩|exact ⟨rfl,_,Eq.trans (zw_ _ _ _) (congrArg (World.drewN _) (Nat.add_assoc _ _ _))⟩)));try go_wp2_with (first|(go_at_call 49;(with_reducible refine (impl_within.calls a0_1 0 99 true _ A22.out).mono ?_);rintro e w' ⟨rfl,⟨nd,rfl⟩⟩;(try first|exact ⟨rfl,_,zw_ _ _ _⟩|exact ⟨rfl,_,Eq.trans (zw_ _ _ _) (congrArg (World.drewN _) (Nat.add_assoc _ _ _))⟩))))
         go_ret
         exact ⟨by first|rfl|(simp [errW_none,errW_some] <;> rfl)|(simp [*,errW_none,errW_some] <;> rfl),by repeat (first|(with_reducible first|exact HB.out|apply za_|apply zn_|apply zd_|refine zs_ ?_ GE108.out)|exact HB.out)⟩
        ·replace c37:=Bool.eq_false_iff.mpr c37
         subst c37
         have H1 : (some false) = some r:=by rw [if_neg (show ¬ (false = true) by decide)] at H;exact H
         clear H
         have H:=H1
         clear H1
         obtain rfl:=Option.some.inj H
         have hcz39_0 : wc.cell? ⟨gb108,0,none⟩ = some (.int .i64 a0_0):=(zc_ BK108.out 0).trans rfl
         have hcz39_1 : wc.cell? ⟨gb108,1,none⟩ = some (.int .i64 a0_1):=(zc_ BK108.out 1).trans rfl
         have hcz39_2 : wc.cell? ⟨gb108,2,none⟩ = some (.string a0_2):=(zc_ BK108.out 2).trans rfl
         have hcz39_3 : wc.cell? ⟨gb108,3,none⟩ = some (.slice A0_3 l0_3.length c0_3):=(zc_ BK108.out 3).trans rfl
         have hfz39_0:=zf_ BK108.out 0
         have hfz39_1:=zf_ BK108.out 1
         have hfz39_2:=zf_ BK108.out 2
         have hfz39_3:=zf_ BK108.out 3
         go_wp2_with (first|(go_at_call 49;(with_reducible refine (impl_within.calls a0_1 0 99 false _ A22.out).mono ?_);rintro e w' ⟨rfl,⟨nd,rfl⟩⟩;(try first|exact ⟨rfl,_,zw_ _ _ _⟩|exact ⟨rfl,_,Eq.trans (zw_ _ _ _) (congrArg (World.drewN _) (Nat.add_assoc _ _ _))⟩)))
         repeat (go_quiet (first|(go_at_call 49;(with_reducible refine (impl_within.calls a0_1 0 99 false _ A22.out).mono ?_);rintro e w' ⟨rfl,⟨nd,rfl⟩⟩;(try first|exact ⟨rfl,_,zw_ _ _ _⟩|exact ⟨rfl,_,Eq.trans (zw_ _ _ _) (congrArg (World.drewN _) (Nat.add_assoc _ _ _))⟩)));try go_wp2_with (first|(go_at_call 49;(with_reducible refine (impl_within.calls a0_1 0 99 false _ A22.out).mono ?_);rintro e w' ⟨rfl,⟨nd,rfl⟩⟩;(try first|exact ⟨rfl,_,zw_ _ _ _⟩|exact ⟨rfl,_,Eq.trans (zw_ _ _ _) (congrArg (World.drewN _) (Nat.add_assoc _ _ _))⟩))))
         go_ret
         exact ⟨by first|rfl|(simp [errW_none,errW_some] <;> rfl)|(simp [*,errW_none,errW_some] <;> rfl),by repeat (first|(with_reducible first|exact HB.out|apply za_|apply zn_|apply zd_|refine zs_ ?_ GE108.out)|exact HB.out)⟩
     ·rw [if_neg c21] at H
      have c21b0 : (a0_0 == 1) = false:=beq_eq_false_iff_ne.mpr c21
      have c21b1 : (a0_0 != 1) = true:=bne_iff_ne.mpr c21
      by_cases c40 : a0_2.toList = ([] : List UInt8)
      ·rw [if_pos c40] at H
       have c40b0 : (a0_2.toList == ([] : List UInt8)) = true:=beq_iff_eq.mpr c40
       have c40b1 : (a0_2.toList != ([] : List UInt8)) = false:=bne_eq_false_iff_eq.mpr c40
       clear c40
       by_cases c41 : a0_0 = 2
       ·rw [if_pos c41] at H
        have c41b0 : (a0_0 == 2) = true:=beq_iff_eq.mpr c41
        have c41b1 : (a0_0 != 2) = false:=bne_eq_false_iff_eq.mpr c41
        clear c41
        replace H:=Option.bind_eq_some_iff.mp H
        obtain ⟨t116,A420,H⟩:=H
        replace H : (some false) = some r:=H
        have A42:=zm_ A420
        clear A420
        obtain rfl:=Option.some.inj H
        have hcz43_0 : wc.cell? ⟨gb108,0,none⟩ = some (.int .i64 a0_0):=(zc_ BK108.out 0).trans rfl
        have hcz43_1 : wc.cell? ⟨gb108,1,none⟩ = some (.int .i64 a0_1):=(zc_ BK108.out 1).trans rfl
        have hcz43_2 : wc.cell? ⟨gb108,2,none⟩ = some (.string a0_2):=(zc_ BK108.out 2).trans rfl
        have hcz43_3 : wc.cell? ⟨gb108,3,none⟩ = some (.slice A0_3 l0_3.length c0_3):=(zc_ BK108.out 3).trans rfl
        have hfz43_0:=zf_ BK108.out 0
        have hfz43_1:=zf_ BK108.out 1
        have hfz43_2:=zf_ BK108.out 2
        have hfz43_3:=zf_ BK108.out 3
        go_wp2_with (first|(go_at_call 81;(with_reducible refine (impl_VarName.calls kj2 a0_2 t116 _ A42.out).mono ?_);rintro e w' ⟨rfl,⟨nd,rfl⟩⟩;(try first|exact ⟨rfl,_,zw_ _ _ _⟩|exact ⟨rfl,_,Eq.trans (zw_ _ _ _) (congrArg (World.drewN _) (Nat.add_assoc _ _ _))⟩)))
        repeat (go_quiet (first|(go_at_call 81;(with_reducible refine (impl_VarName.calls kj2 a0_2 t116 _ A42.out).mono ?_);rintro e w' ⟨rfl,⟨nd,rfl⟩⟩;(try first|exact ⟨rfl,_,zw_ _ _ _⟩|exact ⟨rfl,_,Eq.trans (zw_ _ _ _) (congrArg (World.drewN _) (Nat.add_assoc _ _ _))⟩)));try go_wp2_with (first|(go_at_call 81;(with_reducible refine (impl_VarName.calls kj2 a0_2 t116 _ A42.out).mono ?_);rintro e w' ⟨rfl,⟨nd,rfl⟩⟩;(try first|exact ⟨rfl,_,zw_ _ _ _⟩|exact ⟨rfl,_,Eq.trans (zw_ _ _ _) (congrArg (World.drewN _) (Nat.add_assoc _ _ _))⟩))))
        go_ret
        exact ⟨by first|rfl|(simp [errW_none,errW_some] <;> rfl)|(simp [*,errW_none,errW_some] <;> rfl),by repeat (first|(with_reducible first|exact HB.out|apply za_|apply zn_|apply zd_|refine zs_ ?_ GE108.out)|exact HB.out)⟩
       ·rw [if_neg c41] at H
        have c41b0 : (a0_0 == 2) = false:=beq_eq_false_iff_ne.mpr c41
        have c41b1 : (a0_0 != 2) = true:=bne_iff_ne.mpr c41
        obtain rfl:=Option.some.inj H
        have hcz44_0 : wc.cell? ⟨gb108,0,none⟩ = some (.int .i64 a0_0):=(zc_ BK108.out 0).trans rfl
        have hcz44_1 : wc.cell? ⟨gb108,1,none⟩ = some (.int .i64 a0_1):=(zc_ BK108.out 1).trans rfl
        have hcz44_2 : wc.cell? ⟨gb108,2,none⟩ = some (.string a0_2):=(zc_ BK108.out 2).trans rfl
        have hcz44_3 : wc.cell? ⟨gb108,3,none⟩ = some (.slice A0_3 l0_3.length c0_3):=(zc_ BK108.out 3).trans rfl
        have hfz44_0:=zf_ BK108.out 0
        have hfz44_1:=zf_ BK108.out 1
        have hfz44_2:=zf_ BK108.out 2
        have hfz44_3:=zf_ BK108.out 3
        go_wp2
        repeat (go_quiet (fail);try go_wp2)
        go_ret
        exact ⟨by first|rfl|(simp [errW_none,errW_some] <;> rfl)|(simp [*,errW_none,errW_some] <;> rfl),by repeat (first|(with_reducible first|exact HB.out|apply za_|apply zn_|apply zd_|refine zs_ ?_ GE108.out)|exact HB.out)⟩
      ·rw [if_neg c40] at H
       have c40b0 : (a0_2.toList == ([] : List UInt8)) = false:=beq_eq_false_iff_ne.mpr c40
       have c40b1 : (a0_2.toList != ([] : List UInt8)) = true:=bne_iff_ne.mpr c40
       by_cases c45 : a0_0 = 2
       ·rw [if_pos c45] at H
        have c45b0 : (a0_0 == 2) = true:=beq_iff_eq.mpr c45
        have c45b1 : (a0_0 != 2) = false:=bne_eq_false_iff_eq.mpr c45
        clear c45
        replace H:=Option.bind_eq_some_iff.mp H
        obtain ⟨t117,A460,H⟩:=H
        replace H : (some false) = some r:=H
        have A46:=zm_ A460
        clear A460
        obtain rfl:=Option.some.inj H
        have hcz47_0 : wc.cell? ⟨gb108,0,none⟩ = some (.int .i64 a0_0):=(zc_ BK108.out 0).trans rfl
        have hcz47_1 : wc.cell? ⟨gb108,1,none⟩ = some (.int .i64 a0_1):=(zc_ BK108.out 1).trans rfl
        have hcz47_2 : wc.cell? ⟨gb108,2,none⟩ = some (.string a0_2):=(zc_ BK108.out 2).trans rfl
        have hcz47_3 : wc.cell? ⟨gb108,3,none⟩ = some (.slice A0_3 l0_3.length c0_3):=(zc_ BK108.out 3).trans rfl
        have hfz47_0:=zf_ BK108.out 0
        have hfz47_1:=zf_ BK108.out 1
        have hfz47_2:=zf_ BK108.out 2
        have hfz47_3:=zf_ BK108.out 3
        go_wp2_with (first|(go_at_call 81;(with_reducible refine (impl_VarName.calls kj2 a0_2 t117 _ A46.out).mono ?_);rintro e w' ⟨rfl,⟨nd,rfl⟩⟩;(try first|exact ⟨rfl,_,zw_ _ _ _⟩|exact ⟨rfl,_,Eq.trans (zw_ _ _ _) (congrArg (World.drewN _) (Nat.add_assoc _ _ _))⟩)))
        repeat (go_quiet (first|(go_at_call 81;(with_reducible refine (impl_VarName.calls kj2 a0_2 t117 _ A46.out).mono ?_);rintro e w' ⟨rfl,⟨nd,rfl⟩⟩;(try first|exact ⟨rfl,_,zw_ _ _ _⟩|exact ⟨rfl,_,Eq.trans (zw_ _ _ _) (congrArg (World.drewN _) (Nat.add_assoc _ _ _))⟩)));try go_wp2_with (first|(go_at_call 81;(with_reducible refine (impl_VarName.calls kj2 a0_2 t117 _ A46.out).mono ?_);rintro e w' ⟨rfl,⟨nd,rfl⟩⟩;(try first|exact ⟨rfl,_,zw_ _ _ _⟩|exact ⟨rfl,_,Eq.trans (zw_ _ _ _) (congrArg (World.drewN _) (Nat.add_assoc _ _ _))⟩))))
        go_ret
        exact ⟨by first|rfl|(simp [errW_none,errW_some] <;> rfl)|(simp [*,errW_none,errW_some] <;> rfl),by repeat (first|(with_reducible first|exact HB.out|apply za_|apply zn_|apply zd_|refine zs_ ?_ GE108.out)|exact HB.out)⟩
       ·rw [if_neg c45] at H
        have c45b0 : (a0_0 == 2) = false:=beq_eq_false_iff_ne.mpr c45
        have c45b1 : (a0_0 != 2) = true:=bne_iff_ne.mpr c45
        obtain rfl:=Option.some.inj H
        have hcz48_0 : wc.cell? ⟨gb108,0,none⟩ = some (.int .i64 a0_0):=(zc_ BK108.out 0).trans rfl
        have hcz48_1 : wc.cell? ⟨gb108,1,none⟩ = some (.int .i64 a0_1):=(zc_ BK108.out 1).trans rfl
        have hcz48_2 : wc.cell? ⟨gb108,2,none⟩ = some (.string a0_2):=(zc_ BK108.out 2).trans rfl
        have hcz48_3 : wc.cell? ⟨gb108,3,none⟩ = some (.slice A0_3 l0_3.length c0_3):=(zc_ BK108.out 3).trans rfl
        have hfz48_0:=zf_ BK108.out 0
        have hfz48_1:=zf_ BK108.out 1
        have hfz48_2:=zf_ BK108.out 2
        have hfz48_3:=zf_ BK108.out 3
        go_wp2
        repeat (go_quiet (fail);try go_wp2)
        go_ret
        exact ⟨by first|rfl|(simp [errW_none,errW_some] <;> rfl)|(simp [*,errW_none,errW_some] <;> rfl),by repeat (first|(with_reducible first|exact HB.out|apply za_|apply zn_|apply zd_|refine zs_ ?_ GE108.out)|exact HB.out)⟩

end Go.Proofs.Ytnmhggdaccbbfaa.MFnExactEvalExpr
