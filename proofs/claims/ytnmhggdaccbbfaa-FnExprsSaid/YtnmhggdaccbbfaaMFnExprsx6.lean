import Derived.Test.YtnmhggdaccbbfaaMFnExprsx0
import Derived.Test.YtnmhggdaccbbfaaMFnExprsx1
import Derived.Test.YtnmhggdaccbbfaaMFnExprsx4
import Derived.Test.YtnmhggdaccbbfaaMFnExprsx5
namespace Go.Proofs.Ytnmhggdaccbbfaa.MFnExprs
open Go.RowKit Go.Proofs.YtnmhggdaccbbfaaW.PrintWords Go.Proofs.YtnmhggdaccbbfaaW.PrintLast Go.Proofs.YtnmhggdaccbbfaaW.PrintMore
attribute [local go_sem] max2_int min2_int max_two min_two max_three min_three max_four min_four
set_option linter.unusedVariables false
set_option linter.unusedSimpArgs false
theorem zt6_5 {p : Prop} (h : p := by repeat (first|(with_reducible first|exact HB.out|apply za_|apply zn_|apply zd_|refine zs_ ?_ (IsS109.ge HI0.out))|exact HB.out)) : p := h
theorem zt6_4 {p : Prop} (h : p := by (with_reducible repeat (first|apply Kd.R_alloc|apply Kd.R_drewN|apply Kd.R_drew));exact HO_3.out) : p := h
theorem zt6_3 {p : Prop} (h : p := by (with_reducible repeat (first|apply Kd.R_alloc|apply Kd.R_drewN|apply Kd.R_drew));exact HO_8.out) : p := h
theorem zt6_2 {p : Prop} (h : p := by repeat (first|(with_reducible first|exact HI0.out|apply IsS109.alloc|apply IsS109.drewN|apply IsS109.drew|apply IsS109.set_1|apply IsS109.set_2)|exact HI0.out)) : p := h
theorem zt6_1 {p : Prop} (h : p := by repeat (first|(with_reducible first|exact HK.out|apply KeepBut.set_|apply keep_drewN|apply keep_drew|apply keep_alloc)|exact HK.out)) : p := h

def spec_VarName.l0 : Nat → ByteArray → Int → Option (Bool)
 |0,_,_ => none
 |k + 1,x0,x3 => if x3 < (x0.size : Int) then (if 0 ≤ x3 then (if (bt x0 x3) < 97 then (some false) else (if (bt x0 x3) > 122 then (some false) else (spec_VarName.l0 k x0 (wrap64 (x3 + 1))))) else (none)) else ((spec_l01In.f (x0.size : Int) 1 4).bind fun t228 => (some t228))
def spec_VarName.f (k : Nat) (a0 : ByteArray) : Option (Bool):=spec_VarName.l0 k a0 0
theorem spec_VarName.mono_l : ∀ k,(∀ y0 y1,LeO (spec_VarName.l0 k y0 y1) (spec_VarName.l0 (k + 1) y0 y1))
 |0 => fun _ _ r h => by simp [spec_VarName.l0] at h
 |k + 1 => by
  have ih0:=spec_VarName.mono_l k
  ·intro y0 y1
   unfold spec_VarName.l0
   repeat' first
   |(with_reducible exact ih0 _ _)
   |(with_reducible exact LeO.refl _)
   |(with_reducible exact LeO.none _)
   |(with_reducible refine LeO.ite ?_ ?_)
   |(with_reducible refine LeO.bind ?_ (fun _ => ?_))
theorem spec_VarName.mono : ∀ a0 k,LeO (spec_VarName.f k a0) (spec_VarName.f (k + 1) a0):=by
 intro a0 k
 have ih0:=spec_VarName.mono_l k
 unfold spec_VarName.f
 repeat' first
   |(with_reducible exact ih0 _ _)
   |(with_reducible exact LeO.refl _)
   |(with_reducible exact LeO.none _)
   |(with_reducible refine LeO.ite ?_ ?_)
   |(with_reducible refine LeO.bind ?_ (fun _ => ?_))
set_option maxHeartbeats 8000000 in
set_option maxRecDepth 100000 in
theorem spec_VarName.calls (k : Nat) (a0 : ByteArray) (r : Bool) (w : World) (h : spec_VarName.f k a0 = some r) :
  Calls Try.prog 52 #[.string a0] w fun e w' => e = .returned (.bool r) ∧ Drawn0 w w':=by
 have H : (spec_VarName.l0 k a0 0) = some r:=h
 clear h
 have H':=zm_ H
 clear H
 go_enter Try.func52,Try.ntmps52
 go_wp2
 go_loopg [3] k (fun kq v3 w' => ∃ (x3_1 : Int),v3 = .int .i64 x3_1 ∧ Aside0 (spec_VarName.l0 kq a0 x3_1 = some r) ∧ Aside0 (kq ≤ k) ∧ Drawn0 w w')
 case atStart => exact ⟨(0),zV_,H',⟨Nat.le_refl _⟩,by repeat (first|exact Drawn0.refl _|apply Drawn0.step)⟩
 case round =>
  clear H'
  obtain ⟨x3_1,rfl,HA,HK1,⟨m1,rfl⟩⟩:=hrel
  cases gk with
  |zero => exact absurd HA.out (by simp [spec_VarName.l0])
  |succ k1 =>
   have H:=HA.out
   clear HA
   simp only [spec_VarName.l0] at H
   by_cases c2 : x3_1 < (a0.size : Int)
   ·rw [if_pos c2] at H
    have c2b0 : decide (x3_1 < (a0.size : Int)) = true:=decide_eq_true c2
    clear c2
    by_cases c3 : 0 ≤ x3_1
    ·rw [if_pos c3] at H
     have c3b0 : decide (0 ≤ x3_1) = true:=decide_eq_true c3
     clear c3
     by_cases c5 : (bt a0 x3_1) < 97
     ·rw [if_pos c5] at H
      have c5b0 : decide ((bt a0 x3_1) < 97) = true:=decide_eq_true c5
      clear c5
      obtain rfl:=Option.some.inj H
      have p4 : 0 ≤ (x3_1 : Int):=zo_
      have q4 : x3_1 < (a0.size : Int):=zo_
      have hx4:=bt_at a0 x3_1
      replace p4:=eq_true p4
      replace q4:=eq_true q4
      go_wp2
      go_ret
      exact ⟨by first|rfl|(simp;done)|(simp [*];done),by repeat (first|exact Drawn0.refl _|apply Drawn0.step)⟩
     ·rw [if_neg c5] at H
      have c5b0 : decide ((bt a0 x3_1) < 97) = false:=decide_eq_false c5
      clear c5
      by_cases c7 : (bt a0 x3_1) > 122
      ·rw [if_pos c7] at H
       have c7b0 : decide (122 < (bt a0 x3_1)) = true:=decide_eq_true c7
       clear c7
       obtain rfl:=Option.some.inj H
       have p4 : 0 ≤ (x3_1 : Int):=zo_
       have q4 : x3_1 < (a0.size : Int):=zo_
       have hx4:=bt_at a0 x3_1
       replace p4:=eq_true p4
       replace q4:=eq_true q4
       have p6 : 0 ≤ (x3_1 : Int):=zo_
       have q6 : x3_1 < (a0.size : Int):=zo_
       have hx6:=bt_at a0 x3_1
       replace p6:=eq_true p6
       replace q6:=eq_true q6
       go_wp2
       go_ret
       exact ⟨by first|rfl|(simp;done)|(simp [*];done),by repeat (first|exact Drawn0.refl _|apply Drawn0.step)⟩
      ·rw [if_neg c7] at H
       have c7b0 : decide (122 < (bt a0 x3_1)) = false:=decide_eq_false c7
       clear c7
       have H':=zm_ H
       clear H
       have p4 : 0 ≤ (x3_1 : Int):=zo_
       have q4 : x3_1 < (a0.size : Int):=zo_
       have hx4:=bt_at a0 x3_1
       replace p4:=eq_true p4
       replace q4:=eq_true q4
       have p6 : 0 ≤ (x3_1 : Int):=zo_
       have q6 : x3_1 < (a0.size : Int):=zo_
       have hx6:=bt_at a0 x3_1
       replace p6:=eq_true p6
       replace q6:=eq_true q6
       go_wp2
       go_roundg k1
       case measure => have:=HK1.out;omega
       case rel => exact ⟨(wrap64 (x3_1 + 1)),zV_,H',⟨by have:=HK1.out;omega⟩,by repeat (first|exact Drawn0.refl _|apply Drawn0.step)⟩
    ·rw [if_neg c3] at H
     exact absurd H (by simp)
   ·rw [if_neg c2] at H
    have c2b0 : decide (x3_1 < (a0.size : Int)) = false:=decide_eq_false c2
    clear c2
    replace H:=Option.bind_eq_some_iff.mp H
    obtain ⟨t228,A80,H⟩:=H
    replace H : (some t228) = some r:=H
    have A8:=zm_ A80
    clear A80
    obtain rfl:=Option.some.inj H
    go_wp2_with (first|((with_reducible refine gate_callee (f:=50) rfl ?_);refine goesL_ (some 22) rfl rfl Try.func50 (by kernel_rfl) rfl #[.int .i64 (a0.size : Int),.int .i64 1,.int .i64 4] rfl zq_ ?_;(with_reducible refine (spec_l01In.calls (a0.size : Int) 1 4 t228 _ A8.out).mono ?_);rintro e w' ⟨rfl,⟨nd,rfl⟩⟩;refine ⟨_,rfl,?_⟩))
    go_ret
    exact ⟨by first|rfl|(simp;done)|(simp [*];done),by repeat (first|exact Drawn0.refl _|apply Drawn0.step)⟩

def spec_EnvOk.l0 : Nat → List (S87) → Int → Option (Bool)
 |0,_,_ => none
 |k + 1,x0,x3 => if x3 < (x0.length : Int) then (if 0 ≤ x3 then ((spec_VarName.f k ((rd_T87 x0 x3).f0)).bind fun t230 => (if t230 = true then ((spec_l01In.f ((rd_T87 x0 x3).f1) (-9999) 9999).bind fun t232 => (if t232 = true then (if x3 > 0 then (if 0 ≤ (wrap64 (x3 - 1)) then (if (wrap64 (x3 - 1)) < (x0.length : Int) then (if ((Op.bytesLess (((rd_T87 x0 (wrap64 (x3 - 1))).f0).toList) (((rd_T87 x0 x3).f0).toList)) = true) then (spec_EnvOk.l0 k x0 (wrap64 (x3 + 1))) else (some false)) else (none)) else (none)) else (spec_EnvOk.l0 k x0 (wrap64 (x3 + 1)))) else (some false))) else (some false))) else (none)) else (some (decide ((x0.length : Int) ≤ 6)))
def spec_EnvOk.f (k : Nat) (l0 : List (S87)) : Option (Bool):=spec_EnvOk.l0 k l0 0
theorem spec_EnvOk.mono_l : ∀ k,(∀ y0 y1,LeO (spec_EnvOk.l0 k y0 y1) (spec_EnvOk.l0 (k + 1) y0 y1))
 |0 => fun _ _ r h => by simp [spec_EnvOk.l0] at h
 |k + 1 => by
  have ih0:=spec_EnvOk.mono_l k
  ·intro y0 y1
   unfold spec_EnvOk.l0
   repeat' first
   |(with_reducible exact ih0 _ _)
   |(with_reducible exact spec_VarName.mono _ _)
   |(with_reducible exact LeO.refl _)
   |(with_reducible exact LeO.none _)
   |(with_reducible refine LeO.ite ?_ ?_)
   |(with_reducible refine LeO.bind ?_ (fun _ => ?_))
theorem spec_EnvOk.mono : ∀ a0 k,LeO (spec_EnvOk.f k a0) (spec_EnvOk.f (k + 1) a0):=by
 intro a0 k
 have ih0:=spec_EnvOk.mono_l k
 unfold spec_EnvOk.f
 repeat' first
   |(with_reducible exact ih0 _ _)
   |(with_reducible exact spec_VarName.mono _ _)
   |(with_reducible exact LeO.refl _)
   |(with_reducible exact LeO.none _)
   |(with_reducible refine LeO.ite ?_ ?_)
   |(with_reducible refine LeO.bind ?_ (fun _ => ?_))
set_option maxHeartbeats 8000000 in
set_option maxRecDepth 100000 in
theorem spec_EnvOk.calls (k : Nat) (A0 : Option Addr) (c0 : Nat) (l0 : List (S87)) (r : Bool) (w : World) (hr0 : Kd.C k87 w A0 l0.length l0) (hc0 : l0.length ≤ c0) (h : spec_EnvOk.f k l0 = some r) :
  Calls Try.prog 97 #[.slice A0 l0.length c0] w fun e w' => e = .returned (.bool r) ∧ Drawn0 w w':=by
 have HR0:=zm_ hr0
 have HC0:=zm_ hc0
 clear hr0 hc0
 have H : (spec_EnvOk.l0 k l0 0) = some r:=h
 clear h
 have H':=zm_ H
 clear H
 go_enter Try.func97,Try.ntmps97
 go_wp2
 repeat (go_quiet (fail);try go_wp2)
 go_loopg [3] k (fun kq v3 w' => ∃ (x3_1 : Int),v3 = .int .i64 x3_1 ∧ Aside0 (spec_EnvOk.l0 kq l0 x3_1 = some r) ∧ Aside0 (kq ≤ k) ∧ Drawn0 w w')
 case atStart => exact ⟨(0),zV_,H',⟨Nat.le_refl _⟩,by repeat (first|exact Drawn0.refl _|apply Drawn0.step)⟩
 case round =>
  clear H'
  obtain ⟨x3_1,rfl,HA,HK1,⟨m1,rfl⟩⟩:=hrel
  cases gk with
  |zero => exact absurd HA.out (by simp [spec_EnvOk.l0])
  |succ k1 =>
   have H:=HA.out
   clear HA
   simp only [spec_EnvOk.l0] at H
   by_cases c2 : x3_1 < (l0.length : Int)
   ·rw [if_pos c2] at H
    have c2b0 : decide (x3_1 < (l0.length : Int)) = true:=decide_eq_true c2
    clear c2
    by_cases c3 : 0 ≤ x3_1
    ·rw [if_pos c3] at H
     have c3b0 : decide (0 ≤ x3_1) = true:=decide_eq_true c3
     clear c3
     replace H:=Option.bind_eq_some_iff.mp H
     obtain ⟨t230,A40,H⟩:=H
     replace H : (if t230 = true then ((spec_l01In.f ((rd_T87 l0 x3_1).f1) (-9999) 9999).bind fun t232 => (if t232 = true then (if x3_1 > 0 then (if 0 ≤ (wrap64 (x3_1 - 1)) then (if (wrap64 (x3_1 - 1)) < (l0.length : Int) then (if ((Op.bytesLess (((rd_T87 l0 (wrap64 (x3_1 - 1))).f0).toList) (((rd_T87 l0 x3_1).f0).toList)) = true) then (spec_EnvOk.l0 k1 l0 (wrap64 (x3_1 + 1))) else (some false)) else (none)) else (none)) else (spec_EnvOk.l0 k1 l0 (wrap64 (x3_1 + 1)))) else (some false))) else (some false)) = some r:=H
     have A4:=zm_ A40
     clear A40
     by_cases c5 : t230 = true
     ·subst c5
      have H1 : ((spec_l01In.f ((rd_T87 l0 x3_1).f1) (-9999) 9999).bind fun t232 => (if t232 = true then (if x3_1 > 0 then (if 0 ≤ (wrap64 (x3_1 - 1)) then (if (wrap64 (x3_1 - 1)) < (l0.length : Int) then (if ((Op.bytesLess (((rd_T87 l0 (wrap64 (x3_1 - 1))).f0).toList) (((rd_T87 l0 x3_1).f0).toList)) = true) then (spec_EnvOk.l0 k1 l0 (wrap64 (x3_1 + 1))) else (some false)) else (none)) else (none)) else (spec_EnvOk.l0 k1 l0 (wrap64 (x3_1 + 1)))) else (some false))) = some r:=by rw [if_pos rfl] at H;exact H
      clear H
      have H:=H1
      clear H1
      replace H:=Option.bind_eq_some_iff.mp H
      obtain ⟨t232,A60,H⟩:=H
      replace H : (if t232 = true then (if x3_1 > 0 then (if 0 ≤ (wrap64 (x3_1 - 1)) then (if (wrap64 (x3_1 - 1)) < (l0.length : Int) then (if ((Op.bytesLess (((rd_T87 l0 (wrap64 (x3_1 - 1))).f0).toList) (((rd_T87 l0 x3_1).f0).toList)) = true) then (spec_EnvOk.l0 k1 l0 (wrap64 (x3_1 + 1))) else (some false)) else (none)) else (none)) else (spec_EnvOk.l0 k1 l0 (wrap64 (x3_1 + 1)))) else (some false)) = some r:=H
      have A6:=zm_ A60
      clear A60
      by_cases c7 : t232 = true
      ·subst c7
       have H1 : (if x3_1 > 0 then (if 0 ≤ (wrap64 (x3_1 - 1)) then (if (wrap64 (x3_1 - 1)) < (l0.length : Int) then (if ((Op.bytesLess (((rd_T87 l0 (wrap64 (x3_1 - 1))).f0).toList) (((rd_T87 l0 x3_1).f0).toList)) = true) then (spec_EnvOk.l0 k1 l0 (wrap64 (x3_1 + 1))) else (some false)) else (none)) else (none)) else (spec_EnvOk.l0 k1 l0 (wrap64 (x3_1 + 1)))) = some r:=by rw [if_pos rfl] at H;exact H
       clear H
       have H:=H1
       clear H1
       by_cases c8 : x3_1 > 0
       ·rw [if_pos c8] at H
        have c8b0 : decide (0 < x3_1) = true:=decide_eq_true c8
        clear c8
        obtain ⟨ji9,hji9⟩ : ∃ j_ : Int,(wrap64 (x3_1 - 1)) = j_:=⟨_,rfl⟩
        replace H : (if 0 ≤ (ji9) then (if (ji9) < (l0.length : Int) then (if ((Op.bytesLess (((rd_T87 l0 (ji9)).f0).toList) (((rd_T87 l0 x3_1).f0).toList)) = true) then (spec_EnvOk.l0 k1 l0 (wrap64 (x3_1 + 1))) else (some false)) else (none)) else (none)) = some r:=by first|(rw [hji9] at H;exact H)|(simp only [hji9] at H ⊢;exact H)
        (try rw [hji9] at A4)
        (try rw [hji9] at A6)
        have hji9w : (IntKind.i64.wrap (x3_1 - 1)) = ji9:=(i64_w _).trans hji9
        by_cases c10 : 0 ≤ (ji9)
        ·rw [if_pos c10] at H
         have c10b0 : decide (0 ≤ (ji9)) = true:=decide_eq_true c10
         clear c10
         by_cases c11 : (ji9) < (l0.length : Int)
         ·rw [if_pos c11] at H
          have c11b0 : decide ((ji9) < (l0.length : Int)) = true:=decide_eq_true c11
          clear c11
          by_cases c12 : ((Op.bytesLess (((rd_T87 l0 (ji9)).f0).toList) (((rd_T87 l0 x3_1).f0).toList)) = true)
          ·rw [if_pos c12] at H
           have c12b0 : (Op.bytesLess (((rd_T87 l0 (ji9)).f0).toList) (((rd_T87 l0 x3_1).f0).toList)) = true:=c12
           clear c12
           have H':=zm_ H
           clear H
           have p229 : 0 ≤ (x3_1 : Int):=zo_
           have q229 : x3_1 < (l0.length : Int):=zo_
           obtain ⟨ad229,e229,hx229_0,hx229_1⟩:=at_T87 HR0.out x3_1 p229 q229
           cases e229
           replace p229:=eq_true p229
           replace q229:=eq_true q229
           have p231 : 0 ≤ (x3_1 : Int):=zo_
           have q231 : x3_1 < (l0.length : Int):=zo_
           obtain ⟨ad231,e231,hx231_0,hx231_1⟩:=at_T87 HR0.out x3_1 p231 q231
           obtain rfl : ad229 = ad231:=(by injection e231)
           replace p231:=eq_true p231
           replace q231:=eq_true q231
           have p233 : 0 ≤ ((ji9) : Int):=zo_
           have q233 : (ji9) < (l0.length : Int):=zo_
           obtain ⟨ad233,e233,hx233_0,hx233_1⟩:=at_T87 HR0.out (ji9) p233 q233
           obtain rfl : ad229 = ad233:=(by injection e233)
           replace p233:=eq_true p233
           replace q233:=eq_true q233
           have p234 : 0 ≤ (x3_1 : Int):=zo_
           have q234 : x3_1 < (l0.length : Int):=zo_
           obtain ⟨ad234,e234,hx234_0,hx234_1⟩:=at_T87 HR0.out x3_1 p234 q234
           obtain rfl : ad229 = ad234:=(by injection e234)
           replace p234:=eq_true p234
           replace q234:=eq_true q234
           go_wp2_with (first|(go_at_call 52;(with_reducible refine (spec_VarName.calls k1 ((rd_T87 l0 x3_1).f0) true _ A4.out).mono ?_);rintro e w' ⟨rfl,⟨nd,rfl⟩⟩;(try first|exact ⟨rfl,_,zw_ _ _ _⟩|exact ⟨rfl,_,Eq.trans (zw_ _ _ _) (congrArg (World.drewN _) (Nat.add_assoc _ _ _))⟩))|(go_at_call 50;(with_reducible refine (spec_l01In.calls ((rd_T87 l0 x3_1).f1) (-9999) 9999 true _ A6.out).mono ?_);rintro e w' ⟨rfl,⟨nd,rfl⟩⟩;(try first|exact ⟨rfl,_,zw_ _ _ _⟩|exact ⟨rfl,_,Eq.trans (zw_ _ _ _) (congrArg (World.drewN _) (Nat.add_assoc _ _ _))⟩)))
           repeat (go_quiet (first|(go_at_call 52;(with_reducible refine (spec_VarName.calls k1 ((rd_T87 l0 x3_1).f0) true _ A4.out).mono ?_);rintro e w' ⟨rfl,⟨nd,rfl⟩⟩;(try first|exact ⟨rfl,_,zw_ _ _ _⟩|exact ⟨rfl,_,Eq.trans (zw_ _ _ _) (congrArg (World.drewN _) (Nat.add_assoc _ _ _))⟩))|(go_at_call 50;(with_reducible refine (spec_l01In.calls ((rd_T87 l0 x3_1).f1) (-9999) 9999 true _ A6.out).mono ?_);rintro e w' ⟨rfl,⟨nd,rfl⟩⟩;(try first|exact ⟨rfl,_,zw_ _ _ _⟩|exact ⟨rfl,_,Eq.trans (zw_ _ _ _) (congrArg (World.drewN _) (Nat.add_assoc _ _ _))⟩)));try go_wp2_with (first|(go_at_call 52;(with_reducible refine (spec_VarName.calls k1 ((rd_T87 l0 x3_1).f0) true _ A4.out).mono ?_);rintro e w' ⟨rfl,⟨nd,rfl⟩⟩;(try first|exact ⟨rfl,_,zw_ _ _ _⟩|exact ⟨rfl,_,Eq.trans (zw_ _ _ _) (congrArg (World.drewN _) (Nat.add_assoc _ _ _))⟩))|(go_at_call 50;(with_reducible refine (spec_l01In.calls ((rd_T87 l0 x3_1).f1) (-9999) 9999 true _ A6.out).mono ?_);rintro e w' ⟨rfl,⟨nd,rfl⟩⟩;(try first|exact ⟨rfl,_,zw_ _ _ _⟩|exact ⟨rfl,_,Eq.trans (zw_ _ _ _) (congrArg (World.drewN _) (Nat.add_assoc _ _ _))⟩))))
           go_roundg k1
           case measure => have:=HK1.out;omega
           case rel => exact ⟨(wrap64 (x3_1 + 1)),zV_,H',⟨by have:=HK1.out;omega⟩,by repeat (first|exact Drawn0.refl _|apply Drawn0.step)⟩
          ·rw [if_neg c12] at H
           have c12b0 : (Op.bytesLess (((rd_T87 l0 (ji9)).f0).toList) (((rd_T87 l0 x3_1).f0).toList)) = false:=by simpa using c12
           clear c12
           obtain rfl:=Option.some.inj H
           have p229 : 0 ≤ (x3_1 : Int):=zo_
           have q229 : x3_1 < (l0.length : Int):=zo_
           obtain ⟨ad229,e229,hx229_0,hx229_1⟩:=at_T87 HR0.out x3_1 p229 q229
           cases e229
           replace p229:=eq_true p229
           replace q229:=eq_true q229
           have p231 : 0 ≤ (x3_1 : Int):=zo_
           have q231 : x3_1 < (l0.length : Int):=zo_
           obtain ⟨ad231,e231,hx231_0,hx231_1⟩:=at_T87 HR0.out x3_1 p231 q231
           obtain rfl : ad229 = ad231:=(by injection e231)
           replace p231:=eq_true p231
           replace q231:=eq_true q231
           have p233 : 0 ≤ ((ji9) : Int):=zo_
           have q233 : (ji9) < (l0.length : Int):=zo_
           obtain ⟨ad233,e233,hx233_0,hx233_1⟩:=at_T87 HR0.out (ji9) p233 q233
           obtain rfl : ad229 = ad233:=(by injection e233)
           replace p233:=eq_true p233
           replace q233:=eq_true q233
           have p234 : 0 ≤ (x3_1 : Int):=zo_
           have q234 : x3_1 < (l0.length : Int):=zo_
           obtain ⟨ad234,e234,hx234_0,hx234_1⟩:=at_T87 HR0.out x3_1 p234 q234
           obtain rfl : ad229 = ad234:=(by injection e234)
           replace p234:=eq_true p234
           replace q234:=eq_true q234
           go_wp2_with (first|(go_at_call 52;(with_reducible refine (spec_VarName.calls k1 ((rd_T87 l0 x3_1).f0) true _ A4.out).mono ?_);rintro e w' ⟨rfl,⟨nd,rfl⟩⟩;(try first|exact ⟨rfl,_,zw_ _ _ _⟩|exact ⟨rfl,_,Eq.trans (zw_ _ _ _) (congrArg (World.drewN _) (Nat.add_assoc _ _ _))⟩))|(go_at_call 50;(with_reducible refine (spec_l01In.calls ((rd_T87 l0 x3_1).f1) (-9999) 9999 true _ A6.out).mono ?_);rintro e w' ⟨rfl,⟨nd,rfl⟩⟩;(try first|exact ⟨rfl,_,zw_ _ _ _⟩|exact ⟨rfl,_,Eq.trans (zw_ _ _ _) (congrArg (World.drewN _) (Nat.add_assoc _ _ _))⟩)))
           repeat (go_quiet (first|(go_at_call 52;(with_reducible refine (spec_VarName.calls k1 ((rd_T87 l0 x3_1).f0) true _ A4.out).mono ?_);rintro e w' ⟨rfl,⟨nd,rfl⟩⟩;(try first|exact ⟨rfl,_,zw_ _ _ _⟩|exact ⟨rfl,_,Eq.trans (zw_ _ _ _) (congrArg (World.drewN _) (Nat.add_assoc _ _ _))⟩))|(go_at_call 50;(with_reducible refine (spec_l01In.calls ((rd_T87 l0 x3_1).f1) (-9999) 9999 true _ A6.out).mono ?_);rintro e w' ⟨rfl,⟨nd,rfl⟩⟩;(try first|exact ⟨rfl,_,zw_ _ _ _⟩|exact ⟨rfl,_,Eq.trans (zw_ _ _ _) (congrArg (World.drewN _) (Nat.add_assoc _ _ _))⟩)));try go_wp2_with (first|(go_at_call 52;(with_reducible refine (spec_VarName.calls k1 ((rd_T87 l0 x3_1).f0) true _ A4.out).mono ?_);rintro e w' ⟨rfl,⟨nd,rfl⟩⟩;(try first|exact ⟨rfl,_,zw_ _ _ _⟩|exact ⟨rfl,_,Eq.trans (zw_ _ _ _) (congrArg (World.drewN _) (Nat.add_assoc _ _ _))⟩))|(go_at_call 50;(with_reducible refine (spec_l01In.calls ((rd_T87 l0 x3_1).f1) (-9999) 9999 true _ A6.out).mono ?_);rintro e w' ⟨rfl,⟨nd,rfl⟩⟩;(try first|exact ⟨rfl,_,zw_ _ _ _⟩|exact ⟨rfl,_,Eq.trans (zw_ _ _ _) (congrArg (World.drewN _) (Nat.add_assoc _ _ _))⟩))))
           go_ret
           exact ⟨by first|rfl|(simp;done)|(simp only [← hji9] <;> (first|rfl|simp))|(simp [*];done),by repeat (first|exact Drawn0.refl _|apply Drawn0.step)⟩
         ·rw [if_neg c11] at H
          exact absurd H (by simp)
        ·rw [if_neg c10] at H
         exact absurd H (by simp)
       ·rw [if_neg c8] at H
        have c8b0 : decide (0 < x3_1) = false:=decide_eq_false c8
        clear c8
        have H':=zm_ H
        clear H
        have p229 : 0 ≤ (x3_1 : Int):=zo_
        have q229 : x3_1 < (l0.length : Int):=zo_
        obtain ⟨ad229,e229,hx229_0,hx229_1⟩:=at_T87 HR0.out x3_1 p229 q229
        cases e229
        replace p229:=eq_true p229
        replace q229:=eq_true q229
        have p231 : 0 ≤ (x3_1 : Int):=zo_
        have q231 : x3_1 < (l0.length : Int):=zo_
        obtain ⟨ad231,e231,hx231_0,hx231_1⟩:=at_T87 HR0.out x3_1 p231 q231
        obtain rfl : ad229 = ad231:=(by injection e231)
        replace p231:=eq_true p231
        replace q231:=eq_true q231
        go_wp2_with (first|(go_at_call 52;(with_reducible refine (spec_VarName.calls k1 ((rd_T87 l0 x3_1).f0) true _ A4.out).mono ?_);rintro e w' ⟨rfl,⟨nd,rfl⟩⟩;(try first|exact ⟨rfl,_,zw_ _ _ _⟩|exact ⟨rfl,_,Eq.trans (zw_ _ _ _) (congrArg (World.drewN _) (Nat.add_assoc _ _ _))⟩))|(go_at_call 50;(with_reducible refine (spec_l01In.calls ((rd_T87 l0 x3_1).f1) (-9999) 9999 true _ A6.out).mono ?_);rintro e w' ⟨rfl,⟨nd,rfl⟩⟩;(try first|exact ⟨rfl,_,zw_ _ _ _⟩|exact ⟨rfl,_,Eq.trans (zw_ _ _ _) (congrArg (World.drewN _) (Nat.add_assoc _ _ _))⟩)))
        repeat (go_quiet (first|(go_at_call 52;(with_reducible refine (spec_VarName.calls k1 ((rd_T87 l0 x3_1).f0) true _ A4.out).mono ?_);rintro e w' ⟨rfl,⟨nd,rfl⟩⟩;(try first|exact ⟨rfl,_,zw_ _ _ _⟩|exact ⟨rfl,_,Eq.trans (zw_ _ _ _) (congrArg (World.drewN _) (Nat.add_assoc _ _ _))⟩))|(go_at_call 50;(with_reducible refine (spec_l01In.calls ((rd_T87 l0 x3_1).f1) (-9999) 9999 true _ A6.out).mono ?_);rintro e w' ⟨rfl,⟨nd,rfl⟩⟩;(try first|exact ⟨rfl,_,zw_ _ _ _⟩|exact ⟨rfl,_,Eq.trans (zw_ _ _ _) (congrArg (World.drewN _) (Nat.add_assoc _ _ _))⟩)));try go_wp2_with (first|(go_at_call 52;(with_reducible refine (spec_VarName.calls k1 ((rd_T87 l0 x3_1).f0) true _ A4.out).mono ?_);rintro e w' ⟨rfl,⟨nd,rfl⟩⟩;(try first|exact ⟨rfl,_,zw_ _ _ _⟩|exact ⟨rfl,_,Eq.trans (zw_ _ _ _) (congrArg (World.drewN _) (Nat.add_assoc _ _ _))⟩))|(go_at_call 50;(with_reducible refine (spec_l01In.calls ((rd_T87 l0 x3_1).f1) (-9999) 9999 true _ A6.out).mono ?_);rintro e w' ⟨rfl,⟨nd,rfl⟩⟩;(try first|exact ⟨rfl,_,zw_ _ _ _⟩|exact ⟨rfl,_,Eq.trans (zw_ _ _ _) (congrArg (World.drewN _) (Nat.add_assoc _ _ _))⟩))))
        go_roundg k1
        case measure => have:=HK1.out;omega
        case rel => exact ⟨(wrap64 (x3_1 + 1)),zV_,H',⟨by have:=HK1.out;omega⟩,by repeat (first|exact Drawn0.refl _|apply Drawn0.step)⟩
      ·replace c7:=Bool.eq_false_iff.mpr c7
       subst c7
       have H1 : (some false) = some r:=by rw [if_neg (show ¬ (false = true) by decide)] at H;exact H
       clear H
       have H:=H1
       clear H1
       obtain rfl:=Option.some.inj H
       have p229 : 0 ≤ (x3_1 : Int):=zo_
       have q229 : x3_1 < (l0.length : Int):=zo_
       obtain ⟨ad229,e229,hx229_0,hx229_1⟩:=at_T87 HR0.out x3_1 p229 q229
       cases e229
       replace p229:=eq_true p229
       replace q229:=eq_true q229
       have p231 : 0 ≤ (x3_1 : Int):=zo_
       have q231 : x3_1 < (l0.length : Int):=zo_
       obtain ⟨ad231,e231,hx231_0,hx231_1⟩:=at_T87 HR0.out x3_1 p231 q231
       obtain rfl : ad229 = ad231:=(by injection e231)
       replace p231:=eq_true p231
       replace q231:=eq_true q231
       go_wp2_with (first|(go_at_call 52;(with_reducible refine (spec_VarName.calls k1 ((rd_T87 l0 x3_1).f0) true _ A4.out).mono ?_);rintro e w' ⟨rfl,⟨nd,rfl⟩⟩;(try first|exact ⟨rfl,_,zw_ _ _ _⟩|exact ⟨rfl,_,Eq.trans (zw_ _ _ _) (congrArg (World.drewN _) (Nat.add_assoc _ _ _))⟩))|(go_at_call 50;(with_reducible refine (spec_l01In.calls ((rd_T87 l0 x3_1).f1) (-9999) 9999 false _ A6.out).mono ?_);rintro e w' ⟨rfl,⟨nd,rfl⟩⟩;(try first|exact ⟨rfl,_,zw_ _ _ _⟩|exact ⟨rfl,_,Eq.trans (zw_ _ _ _) (congrArg (World.drewN _) (Nat.add_assoc _ _ _))⟩)))
       repeat (go_quiet (first|(go_at_call 52;(with_reducible refine (spec_VarName.calls k1 ((rd_T87 l0 x3_1).f0) true _ A4.out).mono ?_);rintro e w' ⟨rfl,⟨nd,rfl⟩⟩;(try first|exact ⟨rfl,_,zw_ _ _ _⟩|exact ⟨rfl,_,Eq.trans (zw_ _ _ _) (congrArg (World.drewN _) (Nat.add_assoc _ _ _))⟩))|(go_at_call 50;(with_reducible refine (spec_l01In.calls ((rd_T87 l0 x3_1).f1) (-9999) 9999 false _ A6.out).mono ?_);rintro e w' ⟨rfl,⟨nd,rfl⟩⟩;(try first|exact ⟨rfl,_,zw_ _ _ _⟩|exact ⟨rfl,_,Eq.trans (zw_ _ _ _) (congrArg (World.drewN _) (Nat.add_assoc _ _ _))⟩)));try go_wp2_with (first|(go_at_call 52;(with_reducible refine (spec_VarName.calls k1 ((rd_T87 l0 x3_1).f0) true _ A4.out).mono ?_);rintro e w' ⟨rfl,⟨nd,rfl⟩⟩;(try first|exact ⟨rfl,_,zw_ _ _ _⟩|exact ⟨rfl,_,Eq.trans (zw_ _ _ _) (congrArg (World.drewN _) (Nat.add_assoc _ _ _))⟩))|(go_at_call 50;(with_reducible refine (spec_l01In.calls ((rd_T87 l0 x3_1).f1) (-9999) 9999 false _ A6.out).mono ?_);rintro e w' ⟨rfl,⟨nd,rfl⟩⟩;(try first|exact ⟨rfl,_,zw_ _ _ _⟩|exact ⟨rfl,_,Eq.trans (zw_ _ _ _) (congrArg (World.drewN _) (Nat.add_assoc _ _ _))⟩))))
       go_ret
       exact ⟨by first|rfl|(simp;done)|(simp [*];done),by repeat (first|exact Drawn0.refl _|apply Drawn0.step)⟩
     ·replace c5:=Bool.eq_false_iff.mpr c5
      subst c5
      have H1 : (some false) = some r:=by rw [if_neg (show ¬ (false = true) by decide)] at H;exact H
      clear H
      have H:=H1
      clear H1
      obtain rfl:=Option.some.inj H
      have p229 : 0 ≤ (x3_1 : Int):=zo_
      have q229 : x3_1 < (l0.length : Int):=zo_
      obtain ⟨ad229,e229,hx229_0,hx229_1⟩:=at_T87 HR0.out x3_1 p229 q229
      cases e229
      replace p229:=eq_true p229
      replace q229:=eq_true q229
      go_wp2_with (first|(go_at_call 52;(with_reducible refine (spec_VarName.calls k1 ((rd_T87 l0 x3_1).f0) false _ A4.out).mono ?_);rintro e w' ⟨rfl,⟨nd,rfl⟩⟩;(try first|exact ⟨rfl,_,zw_ _ _ _⟩|exact ⟨rfl,_,Eq.trans (zw_ _ _ _) (congrArg (World.drewN _) (Nat.add_assoc _ _ _))⟩)))
      repeat (go_quiet (first|(go_at_call 52;(with_reducible refine (spec_VarName.calls k1 ((rd_T87 l0 x3_1).f0) false _ A4.out).mono ?_);rintro e w' ⟨rfl,⟨nd,rfl⟩⟩;(try first|exact ⟨rfl,_,zw_ _ _ _⟩|exact ⟨rfl,_,Eq.trans (zw_ _ _ _) (congrArg (World.drewN _) (Nat.add_assoc _ _ _))⟩)));try go_wp2_with (first|(go_at_call 52;(with_reducible refine (spec_VarName.calls k1 ((rd_T87 l0 x3_1).f0) false _ A4.out).mono ?_);rintro e w' ⟨rfl,⟨nd,rfl⟩⟩;(try first|exact ⟨rfl,_,zw_ _ _ _⟩|exact ⟨rfl,_,Eq.trans (zw_ _ _ _) (congrArg (World.drewN _) (Nat.add_assoc _ _ _))⟩))))
      go_ret
      exact ⟨by first|rfl|(simp;done)|(simp [*];done),by repeat (first|exact Drawn0.refl _|apply Drawn0.step)⟩
    ·rw [if_neg c3] at H
     exact absurd H (by simp)
   ·rw [if_neg c2] at H
    have c2b0 : decide (x3_1 < (l0.length : Int)) = false:=decide_eq_false c2
    clear c2
    obtain rfl:=Option.some.inj H
    go_wp2
    repeat (go_quiet (fail);try go_wp2)
    go_ret
    exact ⟨by first|rfl|(simp;done)|(simp [*];done),by repeat (first|exact Drawn0.refl _|apply Drawn0.step)⟩

mutual
def spec_EnvSet.l0 : Nat → List (S87) → ByteArray → Int → List (S87) → Int → Option ((List (S87)) × Bool)
 |0,_,_,_,_,_ => none
 |k + 1,x0,x1,x2,x8,x9 => if x9 < (x0.length : Int) then (if 0 ≤ x9 then (if (Op.bytesLess (((rd_T87 x0 x9).f0).toList) x1.toList) = true then (if x8.length < 5864062014805 then (spec_EnvSet.l0 k x0 x1 x2 (x8 ++ [(⟨(rd_T87 x0 x9).f0,(rd_T87 x0 x9).f1⟩ : S87)]) (wrap64 (x9 + 1))) else (none)) else (spec_EnvSet.l0 k x0 x1 x2 x8 (wrap64 (x9 + 1)))) else (none)) else (if x8.length < 5864062014805 then (spec_EnvSet.l1 k x0 x1 (x8 ++ [(⟨x1,x2⟩ : S87)]) 0) else (none))
def spec_EnvSet.l1 : Nat → List (S87) → ByteArray → List (S87) → Int → Option ((List (S87)) × Bool)
 |0,_,_,_,_ => none
 |k + 1,x0,x1,x8,x10 => if x10 < (x0.length : Int) then (if 0 ≤ x10 then (if (Op.bytesLess x1.toList (((rd_T87 x0 x10).f0).toList)) = true then (if x8.length < 5864062014805 then (spec_EnvSet.l1 k x0 x1 (x8 ++ [(⟨(rd_T87 x0 x10).f0,(rd_T87 x0 x10).f1⟩ : S87)]) (wrap64 (x10 + 1))) else (none)) else (spec_EnvSet.l1 k x0 x1 x8 (wrap64 (x10 + 1)))) else (none)) else ((spec_EnvOk.f k x8).bind fun t251 => (if t251 = true then (some (x8,true)) else ((some (([] : List (S87)) : List (S87))).bind fun y252 => (if y252.length + x0.length < 5864062014805 then (some ((y252 ++ x0),false)) else (none)))))
end
def spec_EnvSet.f (k : Nat) (l0 : List (S87)) (a1 : ByteArray) (a2 : Int) : Option ((List (S87)) × Bool):=spec_EnvSet.l0 k l0 a1 a2 (([] : List (S87))) 0
theorem spec_EnvSet.mono_l : ∀ k,(∀ y0 y1 y2 y3 y4,LeO (spec_EnvSet.l0 k y0 y1 y2 y3 y4) (spec_EnvSet.l0 (k + 1) y0 y1 y2 y3 y4)) ∧ (∀ y0 y1 y2 y3,LeO (spec_EnvSet.l1 k y0 y1 y2 y3) (spec_EnvSet.l1 (k + 1) y0 y1 y2 y3))
 |0 => ⟨fun _ _ _ _ _ r h => by simp [spec_EnvSet.l0] at h,fun _ _ _ _ r h => by simp [spec_EnvSet.l1] at h⟩
 |k + 1 => by
  obtain ⟨ih0,ih1⟩:=spec_EnvSet.mono_l k
  refine ⟨?_,?_⟩
  ·intro y0 y1 y2 y3 y4
   unfold spec_EnvSet.l0
   repeat' first
   |(with_reducible exact ih0 _ _ _ _ _)
   |(with_reducible exact ih1 _ _ _ _)
   |(with_reducible exact spec_EnvOk.mono _ _)
   |(with_reducible exact LeO.refl _)
   |(with_reducible exact LeO.none _)
   |(with_reducible refine LeO.ite ?_ ?_)
   |(with_reducible refine LeO.bind ?_ (fun _ => ?_))
  ·intro y0 y1 y2 y3
   unfold spec_EnvSet.l1
   repeat' first
   |(with_reducible exact ih0 _ _ _ _ _)
   |(with_reducible exact ih1 _ _ _ _)
   |(with_reducible exact spec_EnvOk.mono _ _)
   |(with_reducible exact LeO.refl _)
   |(with_reducible exact LeO.none _)
   |(with_reducible refine LeO.ite ?_ ?_)
   |(with_reducible refine LeO.bind ?_ (fun _ => ?_))
theorem spec_EnvSet.mono : ∀ a0 a1 a2 k,LeO (spec_EnvSet.f k a0 a1 a2) (spec_EnvSet.f (k + 1) a0 a1 a2):=by
 intro a0 a1 a2 k
 obtain ⟨ih0,ih1⟩:=spec_EnvSet.mono_l k
 unfold spec_EnvSet.f
 repeat' first
   |(with_reducible exact ih0 _ _ _ _ _)
   |(with_reducible exact ih1 _ _ _ _)
   |(with_reducible exact spec_EnvOk.mono _ _)
   |(with_reducible exact LeO.refl _)
   |(with_reducible exact LeO.none _)
   |(with_reducible refine LeO.ite ?_ ?_)
   |(with_reducible refine LeO.bind ?_ (fun _ => ?_))
set_option maxHeartbeats 8000000 in
set_option maxRecDepth 100000 in
theorem spec_EnvSet.calls (k : Nat) (A0 : Option Addr) (c0 : Nat) (l0 : List (S87)) (a1 : ByteArray) (a2 : Int) (r1 : List (S87)) (r2 : Bool) (w : World) (hr0 : Kd.C k87 w A0 l0.length l0) (hc0 : l0.length ≤ c0) (h : spec_EnvSet.f k l0 a1 a2 = some (r1,r2)) :
  Calls Try.prog 83 #[.slice A0 l0.length c0,.string a1,.int .i64 a2] w fun e w' => ∃ v0_ : Value,e = .returned (.tuple #[v0_,.bool r2]) ∧ Kd.R k87 87 w' w.heap.size (fun _ => True) v0_ r1 ∧ Below w.heap.size w w':=by
 have hu87:=Try.underlying87
 have HR0:=zm_ hr0
 have HC0:=zm_ hc0
 clear hr0 hc0
 have HB:=zm_ (Below.refl w.heap.size w)
 have H : (spec_EnvSet.l0 k l0 a1 a2 (([] : List (S87))) 0) = some (r1,r2):=h
 clear h
 obtain ⟨y235,hy235⟩ : ∃ y_ : List (S87),y_ = (([] : List (S87))):=⟨_,rfl⟩
 replace H : (spec_EnvSet.l0 k l0 a1 a2 y235 0) = some (r1,r2):=by first|(rw [hy235];with_reducible exact H)|(have H2_:=(Option.bind_some _ _).symm.trans H;rw [hy235];with_reducible exact H2_)|(have H2_:=(Option.bind_some _ _).symm.trans H;with_reducible exact H2_)|with_reducible exact H|(rw [hy235];exact H)|exact H
 have Ny235:=zm_ hy235
 clear hy235
 have H':=zm_ H
 clear H
 go_enter Try.func83,Try.ntmps83
 go_wp2_with (first|((with_reducible refine gate_dst (N:=11) rfl ?_);refine Kd.R_lit k87 _ 87 ?hg (N:=11) ?hd (xs:=([] : List (S87))) (inner:=[]) (ok:=fun _ => True) (okp:=fun _ => True) ?hr ?hp (fun _ hk => hk) trivial (Below.refl _ _) (Nat.le_refl _) (by simp) ?_;(case hd => rfl);(case hg => rfl);(case hr => first|(go_simp;done)|(go_simp;rfl));(case hp => exact (Reps.none _ _));intro v236 w4 ho5 hb hg_ hnew_;clear hg_ hnew_;(first|rw [← Ny235.out] at ho5|(simp only [Int.reduceToNat] at ho5;rw [← Ny235.out] at ho5));have n0_:=zm_ (Kd.R_lower ho5 (below_size zB_));have n1_:=zm_ (below_step zB_ hb);clear HB;have HO237:=n0_;have HB:=n1_;clear n0_ n1_;clear hb ho5))
 go_loopg [8,9] k (fun kq v8 v9 w' => ∃ (x8_1 : List (S87)) (x9_1 : Int),v9 = .int .i64 x9_1 ∧ Aside0 (spec_EnvSet.l0 kq l0 a1 a2 x8_1 x9_1 = some (r1,r2)) ∧ Aside0 (kq ≤ k) ∧ Aside0 (Kd.R k87 87 w' w.heap.size (fun _ => True) v8 x8_1) ∧ Aside0 (Below w.heap.size w w'))
 case atStart => exact ⟨(y235),(0),zV_,H',⟨Nat.le_refl _⟩,⟨by (with_reducible repeat (first|apply Kd.R_alloc|apply Kd.R_drewN|apply Kd.R_drew));exact HO237.out⟩,⟨by repeat (first|(with_reducible first|exact HB.out|apply za_|apply zn_|apply zd_)|exact HB.out)⟩⟩
 case round =>
  clear H'
  try clear p2
  obtain ⟨x8_1,x9_1,rfl,HA,HK1,HO_8,HB⟩:=hrel
  cases gk with
  |zero => exact absurd HA.out (by simp [spec_EnvSet.l0])
  |succ k1 =>
   have H:=HA.out
   clear HA
   simp only [spec_EnvSet.l0] at H
   by_cases c6 : x9_1 < (l0.length : Int)
   ·rw [if_pos c6] at H
    have c6b0 : decide (x9_1 < (l0.length : Int)) = true:=decide_eq_true c6
    clear c6
    by_cases c7 : 0 ≤ x9_1
    ·rw [if_pos c7] at H
     have c7b0 : decide (0 ≤ x9_1) = true:=decide_eq_true c7
     clear c7
     by_cases c8 : (Op.bytesLess (((rd_T87 l0 x9_1).f0).toList) a1.toList) = true
     ·rw [if_pos c8] at H
      have c8b0 : (Op.bytesLess (((rd_T87 l0 x9_1).f0).toList) a1.toList) = true:=c8
      clear c8
      by_cases c9 : x8_1.length < 5864062014805
      ·rw [if_pos c9] at H
       have LMc9:=zm_ c9
       clear c9
       obtain ⟨y240,hy240⟩ : ∃ y_ : List (S87),y_ = (x8_1 ++ [(⟨(rd_T87 l0 x9_1).f0,(rd_T87 l0 x9_1).f1⟩ : S87)]):=⟨_,rfl⟩
       replace H : (spec_EnvSet.l0 k1 l0 a1 a2 y240 (wrap64 (x9_1 + 1))) = some (r1,r2):=by first|(rw [hy240];with_reducible exact H)|(have H2_:=(Option.bind_some _ _).symm.trans H;rw [hy240];with_reducible exact H2_)|(have H2_:=(Option.bind_some _ _).symm.trans H;with_reducible exact H2_)|with_reducible exact H|(rw [hy240];exact H)|exact H
       have Ny240:=zm_ hy240
       clear hy240
       have H':=zm_ H
       clear H
       have p238 : 0 ≤ (x9_1 : Int):=zo_
       have q238 : x9_1 < (l0.length : Int):=zo_
       obtain ⟨ad238,e238,hx238_0,hx238_1⟩:=at_T87 HR0.out x9_1 p238 q238
       cases e238
       replace hx238_0:=(HB.out.cell (zb_ w _ hx238_0)).trans hx238_0
       replace hx238_1:=(HB.out.cell (zb_ w _ hx238_1)).trans hx238_1
       replace p238:=eq_true p238
       replace q238:=eq_true q238
       have p239 : 0 ≤ (x9_1 : Int):=zo_
       have q239 : x9_1 < (l0.length : Int):=zo_
       obtain ⟨ad239,e239,hx239_0,hx239_1⟩:=at_T87 HR0.out x9_1 p239 q239
       obtain rfl : ad238 = ad239:=(by injection e239)
       replace hx239_0:=(HB.out.cell (zb_ w _ hx239_0)).trans hx239_0
       replace hx239_1:=(HB.out.cell (zb_ w _ hx239_1)).trans hx239_1
       replace p239:=eq_true p239
       replace q239:=eq_true q239
       go_wp2_with (first|((with_reducible refine gate_builtin (b:=.append) (xs:=#[.tmp 25,.tmp 30]) rfl ?_);at_builtin;refine Kd.R_append k87 (w0:=w) w.heap.size rfl (.tmp 25) (.tmp 30) 32 87 (.agg #[(.string ⟨#[]⟩),(.int .i64 0)]) 24 rfl Try.underlying32 info87 rfl (by decide) (by omega) u8 x8_1 (⟨(rd_T87 l0 x9_1).f0,(rd_T87 l0 x9_1).f1⟩ : S87) [.string ((rd_T87 l0 x9_1).f0),.int .i64 ((rd_T87 l0 x9_1).f1)] (fun _ => True) (fun _ => False) rfl rfl ?aP (fun _ hk => hk.elim) ?aF ?aO ?aB ?aS ?aL ?_;(case aP => exact k87_mkM _ _ _ (⟨(rd_T87 l0 x9_1).f0,(rd_T87 l0 x9_1).f1⟩ : S87));(case aB => exact zB_);(case aF => exact (fun _ _ => trivial));(case aO => exact zt6_3);(case aS => exact (below_size zB_));(case aL => have:=LMc9.out;omega);intro v241 w10 ho hb hg hat;rw [← Ny240.out] at ho;have n0_:=zm_ (hb);have n1_:=zm_ (ho);clear HB;clear HO_8;have HB:=n0_;have HO242:=n1_;clear n0_ n1_;clear ho hb hg hat))
       go_roundg k1
       case measure => have:=HK1.out;omega
       case rel => exact ⟨(y240),(wrap64 (x9_1 + 1)),zV_,H',⟨by have:=HK1.out;omega⟩,⟨by (with_reducible repeat (first|apply Kd.R_alloc|apply Kd.R_drewN|apply Kd.R_drew));exact HO242.out⟩,⟨by repeat (first|(with_reducible first|exact HB.out|apply za_|apply zn_|apply zd_)|exact HB.out)⟩⟩
      ·rw [if_neg c9] at H
       exact absurd H (by simp)
     ·rw [if_neg c8] at H
      have c8b0 : (Op.bytesLess (((rd_T87 l0 x9_1).f0).toList) a1.toList) = false:=by simpa using c8
      clear c8
      have H':=zm_ H
      clear H
      have p238 : 0 ≤ (x9_1 : Int):=zo_
      have q238 : x9_1 < (l0.length : Int):=zo_
      obtain ⟨ad238,e238,hx238_0,hx238_1⟩:=at_T87 HR0.out x9_1 p238 q238
      cases e238
      replace hx238_0:=(HB.out.cell (zb_ w _ hx238_0)).trans hx238_0
      replace hx238_1:=(HB.out.cell (zb_ w _ hx238_1)).trans hx238_1
      replace p238:=eq_true p238
      replace q238:=eq_true q238
      go_wp2
      go_roundg k1
      case measure => have:=HK1.out;omega
      case rel => exact ⟨(x8_1),(wrap64 (x9_1 + 1)),zV_,H',⟨by have:=HK1.out;omega⟩,⟨by (with_reducible repeat (first|apply Kd.R_alloc|apply Kd.R_drewN|apply Kd.R_drew));exact HO_8.out⟩,⟨by repeat (first|(with_reducible first|exact HB.out|apply za_|apply zn_|apply zd_)|exact HB.out)⟩⟩
    ·rw [if_neg c7] at H
     exact absurd H (by simp)
   ·rw [if_neg c6] at H
    have c6b0 : decide (x9_1 < (l0.length : Int)) = false:=decide_eq_false c6
    clear c6
    by_cases c11 : x8_1.length < 5864062014805
    ·rw [if_pos c11] at H
     have LMc11:=zm_ c11
     clear c11
     obtain ⟨y243,hy243⟩ : ∃ y_ : List (S87),y_ = (x8_1 ++ [(⟨a1,a2⟩ : S87)]):=⟨_,rfl⟩
     replace H : (spec_EnvSet.l1 k1 l0 a1 y243 0) = some (r1,r2):=by first|(rw [hy243];with_reducible exact H)|(have H2_:=(Option.bind_some _ _).symm.trans H;rw [hy243];with_reducible exact H2_)|(have H2_:=(Option.bind_some _ _).symm.trans H;with_reducible exact H2_)|with_reducible exact H|(rw [hy243];exact H)|exact H
     have Ny243:=zm_ hy243
     clear hy243
     have H':=zm_ H
     clear H
     go_wp2_with (first|((with_reducible refine gate_builtin (b:=.append) (xs:=#[.tmp 32,.tmp 36]) rfl ?_);at_builtin;refine Kd.R_append k87 (w0:=w) w.heap.size rfl (.tmp 32) (.tmp 36) 32 87 (.agg #[(.string ⟨#[]⟩),(.int .i64 0)]) 24 rfl Try.underlying32 info87 rfl (by decide) (by omega) u8 x8_1 (⟨a1,a2⟩ : S87) [.string a1,.int .i64 a2] (fun _ => True) (fun _ => False) rfl rfl ?aP (fun _ hk => hk.elim) ?aF ?aO ?aB ?aS ?aL ?_;(case aP => exact k87_mkM _ _ _ (⟨a1,a2⟩ : S87));(case aB => exact zB_);(case aF => exact (fun _ _ => trivial));(case aO => exact zt6_3);(case aS => exact (below_size zB_));(case aL => have:=LMc11.out;omega);intro v244 w12 ho hb hg hat;rw [← Ny243.out] at ho;have n0_:=zm_ (hb);have n1_:=zm_ (ho);clear HB;clear HO_8;have HB:=n0_;have HO245:=n1_;clear n0_ n1_;clear ho hb hg hat))
     go_loopg [8,10] k1 (fun kq v8 v10 w' => ∃ (x8_2 : List (S87)) (x10_2 : Int),v10 = .int .i64 x10_2 ∧ Aside0 (spec_EnvSet.l1 kq l0 a1 x8_2 x10_2 = some (r1,r2)) ∧ Aside0 (kq ≤ k1) ∧ Aside0 (Kd.R k87 87 w' w.heap.size (fun _ => True) v8 x8_2) ∧ Aside0 (Below w.heap.size w w'))
     case atStart => exact ⟨(y243),(0),zV_,H',⟨Nat.le_refl _⟩,⟨by (with_reducible repeat (first|apply Kd.R_alloc|apply Kd.R_drewN|apply Kd.R_drew));exact HO245.out⟩,⟨by repeat (first|(with_reducible first|exact HB.out|apply za_|apply zn_|apply zd_)|exact HB.out)⟩⟩
     case round =>
      clear H'
      try clear c1
      try clear p2
      try clear q2
      try clear hx2
      try clear c6
      try clear c6b0
      try clear p6
      try clear c7
      try clear c7b0
      try clear c8
      try clear c8b0
      try clear c9
      try clear c11
      try clear hx238_0
      try clear hx238_1
      try clear hx239_0
      try clear hx239_1
      try clear p2
      try clear p238
      try clear p239
      try clear q238
      try clear q239
      obtain ⟨x8_2,x10_2,rfl,HA,HK2,HO_8,HB⟩:=hrel
      cases gk with
      |zero => exact absurd HA.out (by simp [spec_EnvSet.l1])
      |succ k2 =>
       have H:=HA.out
       clear HA
       simp only [spec_EnvSet.l1] at H
       by_cases c13 : x10_2 < (l0.length : Int)
       ·rw [if_pos c13] at H
        have c13b0 : decide (x10_2 < (l0.length : Int)) = true:=decide_eq_true c13
        clear c13
        by_cases c14 : 0 ≤ x10_2
        ·rw [if_pos c14] at H
         have c14b0 : decide (0 ≤ x10_2) = true:=decide_eq_true c14
         clear c14
         by_cases c15 : (Op.bytesLess a1.toList (((rd_T87 l0 x10_2).f0).toList)) = true
         ·rw [if_pos c15] at H
          have c15b0 : (Op.bytesLess a1.toList (((rd_T87 l0 x10_2).f0).toList)) = true:=c15
          clear c15
          by_cases c16 : x8_2.length < 5864062014805
          ·rw [if_pos c16] at H
           have LMc16:=zm_ c16
           clear c16
           obtain ⟨y248,hy248⟩ : ∃ y_ : List (S87),y_ = (x8_2 ++ [(⟨(rd_T87 l0 x10_2).f0,(rd_T87 l0 x10_2).f1⟩ : S87)]):=⟨_,rfl⟩
           replace H : (spec_EnvSet.l1 k2 l0 a1 y248 (wrap64 (x10_2 + 1))) = some (r1,r2):=by first|(rw [hy248];with_reducible exact H)|(have H2_:=(Option.bind_some _ _).symm.trans H;rw [hy248];with_reducible exact H2_)|(have H2_:=(Option.bind_some _ _).symm.trans H;with_reducible exact H2_)|with_reducible exact H|(rw [hy248];exact H)|exact H
           have Ny248:=zm_ hy248
           clear hy248
           have H':=zm_ H
           clear H
           have p246 : 0 ≤ (x10_2 : Int):=zo_
           have q246 : x10_2 < (l0.length : Int):=zo_
           obtain ⟨ad246,e246,hx246_0,hx246_1⟩:=at_T87 HR0.out x10_2 p246 q246
           cases e246
           replace hx246_0:=(HB.out.cell (zb_ w _ hx246_0)).trans hx246_0
           replace hx246_1:=(HB.out.cell (zb_ w _ hx246_1)).trans hx246_1
           replace p246:=eq_true p246
           replace q246:=eq_true q246
           have p247 : 0 ≤ (x10_2 : Int):=zo_
           have q247 : x10_2 < (l0.length : Int):=zo_
           obtain ⟨ad247,e247,hx247_0,hx247_1⟩:=at_T87 HR0.out x10_2 p247 q247
           obtain rfl : ad246 = ad247:=(by injection e247)
           replace hx247_0:=(HB.out.cell (zb_ w _ hx247_0)).trans hx247_0
           replace hx247_1:=(HB.out.cell (zb_ w _ hx247_1)).trans hx247_1
           replace p247:=eq_true p247
           replace q247:=eq_true q247
           go_wp2_with (first|((with_reducible refine gate_builtin (b:=.append) (xs:=#[.tmp 51,.tmp 56]) rfl ?_);at_builtin;refine Kd.R_append k87 (w0:=w) w.heap.size rfl (.tmp 51) (.tmp 56) 32 87 (.agg #[(.string ⟨#[]⟩),(.int .i64 0)]) 24 rfl Try.underlying32 info87 rfl (by decide) (by omega) u8 x8_2 (⟨(rd_T87 l0 x10_2).f0,(rd_T87 l0 x10_2).f1⟩ : S87) [.string ((rd_T87 l0 x10_2).f0),.int .i64 ((rd_T87 l0 x10_2).f1)] (fun _ => True) (fun _ => False) rfl rfl ?aP (fun _ hk => hk.elim) ?aF ?aO ?aB ?aS ?aL ?_;(case aP => exact k87_mkM _ _ _ (⟨(rd_T87 l0 x10_2).f0,(rd_T87 l0 x10_2).f1⟩ : S87));(case aB => exact zB_);(case aF => exact (fun _ _ => trivial));(case aO => exact zt6_3);(case aS => exact (below_size zB_));(case aL => have:=LMc16.out;omega);intro v249 w17 ho hb hg hat;rw [← Ny248.out] at ho;have n0_:=zm_ (hb);have n1_:=zm_ (ho);clear HB;clear HO_8;have HB:=n0_;have HO250:=n1_;clear n0_ n1_;clear ho hb hg hat))
           go_roundg k2
           case measure => have:=HK1.out;have:=HK2.out;omega
           case rel => exact ⟨(y248),(wrap64 (x10_2 + 1)),zV_,H',⟨by have:=HK1.out;have:=HK2.out;omega⟩,⟨by (with_reducible repeat (first|apply Kd.R_alloc|apply Kd.R_drewN|apply Kd.R_drew));exact HO250.out⟩,⟨by repeat (first|(with_reducible first|exact HB.out|apply za_|apply zn_|apply zd_)|exact HB.out)⟩⟩
          ·rw [if_neg c16] at H
           exact absurd H (by simp)
         ·rw [if_neg c15] at H
          have c15b0 : (Op.bytesLess a1.toList (((rd_T87 l0 x10_2).f0).toList)) = false:=by simpa using c15
          clear c15
          have H':=zm_ H
          clear H
          have p246 : 0 ≤ (x10_2 : Int):=zo_
          have q246 : x10_2 < (l0.length : Int):=zo_
          obtain ⟨ad246,e246,hx246_0,hx246_1⟩:=at_T87 HR0.out x10_2 p246 q246
          cases e246
          replace hx246_0:=(HB.out.cell (zb_ w _ hx246_0)).trans hx246_0
          replace hx246_1:=(HB.out.cell (zb_ w _ hx246_1)).trans hx246_1
          replace p246:=eq_true p246
          replace q246:=eq_true q246
          go_wp2
          go_roundg k2
          case measure => have:=HK1.out;have:=HK2.out;omega
          case rel => exact ⟨(x8_2),(wrap64 (x10_2 + 1)),zV_,H',⟨by have:=HK1.out;have:=HK2.out;omega⟩,⟨by (with_reducible repeat (first|apply Kd.R_alloc|apply Kd.R_drewN|apply Kd.R_drew));exact HO_8.out⟩,⟨by repeat (first|(with_reducible first|exact HB.out|apply za_|apply zn_|apply zd_)|exact HB.out)⟩⟩
        ·rw [if_neg c14] at H
         exact absurd H (by simp)
       ·rw [if_neg c13] at H
        have c13b0 : decide (x10_2 < (l0.length : Int)) = false:=decide_eq_false c13
        clear c13
        replace H:=Option.bind_eq_some_iff.mp H
        obtain ⟨t251,A180,H⟩:=H
        replace H : (if t251 = true then (some (x8_2,true)) else ((some (([] : List (S87)) : List (S87))).bind fun y252 => (if y252.length + l0.length < 5864062014805 then (some ((y252 ++ l0),false)) else (none)))) = some (r1,r2):=H
        have A18:=zm_ A180
        clear A180
        by_cases c19 : t251 = true
        ·subst c19
         have H1 : (some (x8_2,true)) = some (r1,r2):=by rw [if_pos rfl] at H;exact H
         clear H
         have H:=H1
         clear H1
         simp only [Option.some.injEq,Prod.mk.injEq] at H
         obtain ⟨rfl,rfl⟩:=H
         obtain ⟨Ao20,co20,eo20⟩:=Kd.R_slice HO_8.out
         subst eo20
         go_wp2_with (first|((with_reducible refine gate_callee (f:=97) rfl ?_);refine goesL_ (some 59) rfl rfl Try.func97 (by kernel_rfl) rfl #[.slice Ao20 x8_2.length co20] rfl zq_ ?_;(with_reducible refine (spec_EnvOk.calls k2 _ _ x8_2 true _ ?side1 ?side2 A18.out).mono ?_);(case side1 => repeat (first|exact (Kd.R_reads' HO_8.out).2.2|(with_reducible refine Kd.C_alloc ?_ _)|(with_reducible refine Kd.C_drewN ?_ _)|(with_reducible refine Kd.C_drew ?_)));(case side2 => exact (Kd.R_reads' HO_8.out).2.1);rintro e w' ⟨rfl,⟨nd,rfl⟩⟩;refine ⟨_,rfl,?_⟩))
         go_ret2
         exact ⟨_,by first|rfl|(simp [errW_none,errW_some] <;> rfl)|(simp [*,errW_none,errW_some] <;> rfl),by (with_reducible repeat (first|apply Kd.R_alloc|apply Kd.R_drewN|apply Kd.R_drew));exact HO_8.out,by repeat (first|(with_reducible first|exact HB.out|apply za_|apply zn_|apply zd_)|exact HB.out)⟩
        ·replace c19:=Bool.eq_false_iff.mpr c19
         subst c19
         have H1 : ((some (([] : List (S87)) : List (S87))).bind fun y252 => (if y252.length + l0.length < 5864062014805 then (some ((y252 ++ l0),false)) else (none))) = some (r1,r2):=by rw [if_neg (show ¬ (false = true) by decide)] at H;exact H
         clear H
         have H:=H1
         clear H1
         obtain ⟨y252,hy252⟩ : ∃ y_ : List (S87),y_ = (([] : List (S87))):=⟨_,rfl⟩
         replace H : (if y252.length + l0.length < 5864062014805 then (some ((y252 ++ l0),false)) else (none)) = some (r1,r2):=by first|(rw [hy252];with_reducible exact H)|(have H2_:=(Option.bind_some _ _).symm.trans H;rw [hy252];with_reducible exact H2_)|(have H2_:=(Option.bind_some _ _).symm.trans H;with_reducible exact H2_)|with_reducible exact H|(rw [hy252];exact H)|exact H
         have Ny252:=zm_ hy252
         clear hy252
         by_cases c21 : y252.length + l0.length < 5864062014805
         ·rw [if_pos c21] at H
          have LMc21:=zm_ c21
          clear c21
          obtain ⟨y255,hy255⟩ : ∃ y_ : List (S87),y_ = (y252 ++ l0):=⟨_,rfl⟩
          replace H : (some (y255,false)) = some (r1,r2):=by first|(rw [hy255];with_reducible exact H)|(have H2_:=(Option.bind_some _ _).symm.trans H;rw [hy255];with_reducible exact H2_)|(have H2_:=(Option.bind_some _ _).symm.trans H;with_reducible exact H2_)|with_reducible exact H|(rw [hy255];exact H)|exact H
          have Ny255:=zm_ hy255
          clear hy255
          simp only [Option.some.injEq,Prod.mk.injEq] at H
          obtain ⟨rfl,rfl⟩:=H
          obtain ⟨Ao22,co22,eo22⟩:=Kd.R_slice HO_8.out
          subst eo22
          go_wp2_with (first|((with_reducible refine gate_callee (f:=97) rfl ?_);refine goesL_ (some 59) rfl rfl Try.func97 (by kernel_rfl) rfl #[.slice Ao22 x8_2.length co22] rfl zq_ ?_;(with_reducible refine (spec_EnvOk.calls k2 _ _ x8_2 false _ ?side1 ?side2 A18.out).mono ?_);(case side1 => repeat (first|exact (Kd.R_reads' HO_8.out).2.2|(with_reducible refine Kd.C_alloc ?_ _)|(with_reducible refine Kd.C_drewN ?_ _)|(with_reducible refine Kd.C_drew ?_)));(case side2 => exact (Kd.R_reads' HO_8.out).2.1);rintro e w' ⟨rfl,⟨nd,rfl⟩⟩;refine ⟨_,rfl,?_⟩)|((with_reducible refine gate_dst (N:=61) rfl ?_);refine Kd.R_lit k87 _ 87 ?hg (N:=61) ?hd (xs:=([] : List (S87))) (inner:=[]) (ok:=fun _ => True) (okp:=fun _ => True) ?hr ?hp (fun _ hk => hk) trivial (Below.refl _ _) (Nat.le_refl _) (by simp) ?_;(case hd => rfl);(case hg => rfl);(case hr => first|(go_simp;done)|(go_simp;rfl));(case hp => exact (Reps.none _ _));intro v253 w23 ho24 hb hg_ hnew_;clear hg_ hnew_;(first|rw [← Ny252.out] at ho24|(simp only [Int.reduceToNat] at ho24;rw [← Ny252.out] at ho24));have n0_:=zm_ (Kd.R_elder' zt6_3 (Kd.R_base ho24) hb);have n1_:=zm_ (Kd.R_lower (Kd.R_new' ho24 (Kd.R_lt zt6_3)) (below_size zB_));have n2_:=zm_ (below_step zB_ hb);clear HO_8;clear HB;have HO_8:=n0_;have HO254:=n1_;have HB:=n2_;clear n0_ n1_ n2_;clear hb ho24)|((with_reducible refine gate_builtin (b:=.append) (xs:=#[.tmp 61,.tmp 62]) rfl ?_);at_builtin;refine Kd.R_append_rows k87 (w0:=w) w.heap.size rfl (.tmp 61) (.tmp 62) 32 87 (.agg #[(.string ⟨#[]⟩),(.int .i64 0)]) 24 rfl Try.underlying32 info87 rfl (by decide) (by omega) v253 y252 l0 _ _ _ (fun k_ => some k_ ≠ (.slice Ao22 x8_2.length co22 : Value).ownBlock) (fun _ => False) rfl rfl ?aO ?aR (fun _ _ h => h) (fun _ h => h.elim) ?aF ?aB ?aS ?aL ?_;(case aR => repeat (first|exact (Kd.C_below HR0.out HB.out)|(with_reducible refine Kd.C_alloc ?_ _)|(with_reducible refine Kd.C_drewN ?_ _)|(with_reducible refine Kd.C_drew ?_)));(case aB => exact zB_);(case aF => exact (fun k_ hk => Kd.fresh' (Kd.R_lt zt6_3) k_ hk));(case aO => exact (by (with_reducible repeat (first|apply Kd.R_alloc|apply Kd.R_drewN|apply Kd.R_drew));exact Kd.R_mono HO254.out (fun _ hk => hk.2)));(case aS => exact (below_size zB_));(case aL => have:=LMc21.out;omega);intro v256 w25 ho hb hg hat;rw [← Ny255.out] at ho;have n0_:=zm_ (Kd.R_after (ok:=(fun _ => True)) zt6_3 hg hat);have n1_:=zm_ (hb);have n2_:=zm_ (ho);clear HO_8;clear HB;clear HO254;have HO_8:=n0_;have HB:=n1_;have HO257:=n2_;clear n0_ n1_ n2_;clear ho hb hg hat))
          go_ret2
          exact ⟨_,by first|rfl|(simp [errW_none,errW_some] <;> rfl)|(simp [*,errW_none,errW_some] <;> rfl),by (with_reducible repeat (first|apply Kd.R_alloc|apply Kd.R_drewN|apply Kd.R_drew));exact Kd.R_mono HO257.out (fun _ hk => trivial),by repeat (first|(with_reducible first|exact HB.out|apply za_|apply zn_|apply zd_)|exact HB.out)⟩
         ·rw [if_neg c21] at H
          exact absurd H (by simp)
    ·rw [if_neg c11] at H
     exact absurd H (by simp)

def spec_l01Pick.f (s0_0 : List Int) (s0_1 : Int) (s0_2 : Int) (l1 : List ByteArray) : Option (ByteArray × Int × Int):=(spec_l01Below.f s0_0 s0_1 s0_2 (l1.length : Int)).bind fun bt258 => (if 0 ≤ bt258.1 then (if bt258.1 < (l1.length : Int) then (some (rdOf ByteArray.empty l1 bt258.1,bt258.2.1,bt258.2.2)) else (none)) else (none))
set_option maxHeartbeats 8000000 in
set_option maxRecDepth 100000 in
theorem spec_l01Pick.calls (g : Nat) (s0_0 : List Int) (s0_1 : Int) (s0_2 : Int) (A1 : Option Addr) (c1 : Nat) (l1 : List ByteArray) (r1 : ByteArray) (r2 : Int) (r3 : Int) (w0 w : World) (hI : IsS109 w0 w g s0_0 s0_1 s0_2) (hB : Below w0.heap.size w0 w) (hr1 : Kd.C Kd.string w A1 l1.length l1) (hc1 : l1.length ≤ c1) (hf1 : ∀ ad,A1 = some ad → 0 < l1.length → ad.block ≠ g) (h : spec_l01Pick.f s0_0 s0_1 s0_2 l1 = some (r1,r2,r3)) :
  Calls Try.prog 78 #[.pointer (some ⟨g,0,none⟩),.slice A1 l1.length c1] w fun e w' => e = .returned (.string r1) ∧ IsS109 w0 w' g s0_0 r2 r3 ∧ Below w0.heap.size w0 w' ∧ KeepBut w w' g none:=by
 have HR1:=zm_ hr1
 have HC1:=zm_ hc1
 clear hr1 hc1
 have HI0:=zm_ hI
 have HK:=zm_ (KeepBut.refl w g none)
 have HL:=zm_ hB.size
 clear hI
 have HW0:=zm_ hB.size
 have HB:=zm_ hB
 clear hB
 have H : ((spec_l01Below.f s0_0 s0_1 s0_2 (l1.length : Int)).bind fun bt258 => (if 0 ≤ bt258.1 then (if bt258.1 < (l1.length : Int) then (some (rdOf ByteArray.empty l1 bt258.1,bt258.2.1,bt258.2.2)) else (none)) else (none))) = some (r1,r2,r3):=h
 clear h
 replace H:=Option.bind_eq_some_iff.mp H
 obtain ⟨⟨t258,t259,t260⟩,A30,H⟩:=H
 replace H : (if 0 ≤ t258 then (if t258 < (l1.length : Int) then (some (rdOf ByteArray.empty l1 t258,t259,t260)) else (none)) else (none)) = some (r1,r2,r3):=H
 have A3:=zm_ A30
 clear A30
 by_cases c4 : 0 ≤ t258
 ·rw [if_pos c4] at H
  have c4b0 : decide (0 ≤ t258) = true:=decide_eq_true c4
  clear c4
  by_cases c5 : t258 < (l1.length : Int)
  ·rw [if_pos c5] at H
   have c5b0 : decide (t258 < (l1.length : Int)) = true:=decide_eq_true c5
   clear c5
   simp only [Option.some.injEq,Prod.mk.injEq] at H
   obtain ⟨rfl,rfl,rfl⟩:=H
   go_enter Try.func78,Try.ntmps78
   go_wp2_with (first|((with_reducible refine gate_callee (f:=43) rfl ?_);refine goesL_ (some 9) rfl rfl Try.func43 (by kernel_rfl) rfl #[.pointer (some ⟨g,0,none⟩),.int .i64 (l1.length : Int)] rfl zq_ ?_;(with_reducible refine (spec_l01Below.calls g s0_0 s0_1 s0_2 (l1.length : Int) t258 t259 t260 w0 _ ?side1 ?side2 A3.out).mono ?_);(case side1 => repeat (first|(with_reducible first|exact HI0.out|apply IsS109.alloc|apply IsS109.drewN|apply IsS109.drew|apply IsS109.set_1|apply IsS109.set_2)|exact HI0.out));(case side2 => repeat (first|(with_reducible first|exact HB.out|apply za_|apply zn_|apply zd_|refine zs_ ?_ (IsS109.ge HI0.out))|exact HB.out));rintro e w6 ⟨rfl,hi,hb,hk⟩;refine ⟨_,rfl,?_⟩;have n0_:=zm_ (KeepBut.trans zt6_1 hk (.inl rfl));have n1_:=zm_ (hb);have n2_:=zm_ (hi);clear HK;clear HB;clear HI0;have HK:=n0_;have HB:=n1_;have HI0:=n2_;clear n0_ n1_ n2_;(try clear hb);(try clear hb2);(try clear hk);(try clear hi);have p261 : 0 ≤ (t258 : Int):=zo_;have q261 : t258 < (l1.length : Int):=zo_;obtain ⟨ad261,e261,hx261_0⟩:=Kd.at_string HR1.out t258 p261 q261;cases e261;replace hx261_0:=keep_cell HK.out hx261_0 (by first|(rw [add_block];exact hf1 _ rfl (by omega))|exact hf1 _ rfl (by omega)|exact hf1 ad261 rfl (by omega));replace p261:=eq_true p261;replace q261:=eq_true q261))
   go_ret
   exact ⟨zE_,by repeat (first|(with_reducible first|exact HI0.out|apply IsS109.alloc|apply IsS109.drewN|apply IsS109.drew|apply IsS109.set_1|apply IsS109.set_2)|exact HI0.out),by repeat (first|(with_reducible first|exact HB.out|apply za_|apply zn_|apply zd_|refine zs_ ?_ (IsS109.ge HI0.out))|exact HB.out),by repeat (first|(with_reducible first|exact HK.out|apply KeepBut.set_|apply keep_drewN|apply keep_drew|apply keep_alloc)|exact HK.out)⟩
  ·rw [if_neg c5] at H
   exact absurd H (by simp)
 ·rw [if_neg c4] at H
  exact absurd H (by simp)

def spec_l03Name.f (s0_0 : List Int) (s0_1 : Int) (s0_2 : Int) : Option (ByteArray × Int × Int):=(spec_l01Pick.f s0_0 s0_1 s0_2 (([(⟨#[97]⟩ : ByteArray),(⟨#[98]⟩ : ByteArray),(⟨#[110]⟩ : ByteArray),(⟨#[120]⟩ : ByteArray),(⟨#[108,111,110,103]⟩ : ByteArray)] : List ByteArray))).bind fun bt265 => (some (bt265.1,bt265.2.1,bt265.2.2))
set_option maxHeartbeats 8000000 in
set_option maxRecDepth 100000 in
theorem spec_l03Name.calls (g : Nat) (s0_0 : List Int) (s0_1 : Int) (s0_2 : Int) (r1 : ByteArray) (r2 : Int) (r3 : Int) (w0 w : World) (hI : IsS109 w0 w g s0_0 s0_1 s0_2) (hB : Below w0.heap.size w0 w) (h : spec_l03Name.f s0_0 s0_1 s0_2 = some (r1,r2,r3)) :
  Calls Try.prog 84 #[.pointer (some ⟨g,0,none⟩)] w fun e w' => e = .returned (.string r1) ∧ IsS109 w0 w' g s0_0 r2 r3 ∧ Below w0.heap.size w0 w' ∧ KeepBut w w' g none:=by
 have HI0:=zm_ hI
 have HK:=zm_ (KeepBut.refl w g none)
 have HL:=zm_ hB.size
 clear hI
 have HW0:=zm_ hB.size
 have HB:=zm_ hB
 clear hB
 have H : ((spec_l01Pick.f s0_0 s0_1 s0_2 (([(⟨#[97]⟩ : ByteArray),(⟨#[98]⟩ : ByteArray),(⟨#[110]⟩ : ByteArray),(⟨#[120]⟩ : ByteArray),(⟨#[108,111,110,103]⟩ : ByteArray)] : List ByteArray))).bind fun bt265 => (some (bt265.1,bt265.2.1,bt265.2.2))) = some (r1,r2,r3):=h
 clear h
 obtain ⟨y262,hy262⟩ : ∃ y_ : List ByteArray,y_ = (([(⟨#[97]⟩ : ByteArray),(⟨#[98]⟩ : ByteArray),(⟨#[110]⟩ : ByteArray),(⟨#[120]⟩ : ByteArray),(⟨#[108,111,110,103]⟩ : ByteArray)] : List ByteArray)):=⟨_,rfl⟩
 replace H : ((spec_l01Pick.f s0_0 s0_1 s0_2 y262).bind fun bt265 => (some (bt265.1,bt265.2.1,bt265.2.2))) = some (r1,r2,r3):=by first|(rw [hy262];with_reducible exact H)|(have H2_:=(Option.bind_some _ _).symm.trans H;rw [hy262];with_reducible exact H2_)|(have H2_:=(Option.bind_some _ _).symm.trans H;with_reducible exact H2_)|with_reducible exact H|(rw [hy262];exact H)|exact H
 have Ny262:=zm_ hy262
 clear hy262
 replace H:=Option.bind_eq_some_iff.mp H
 obtain ⟨⟨t265,t266,t267⟩,A20,H⟩:=H
 replace H : (some (t265,t266,t267)) = some (r1,r2,r3):=H
 have A2:=zm_ A20
 clear A20
 simp only [Option.some.injEq,Prod.mk.injEq] at H
 obtain ⟨rfl,rfl,rfl⟩:=H
 go_enter Try.func84,Try.ntmps84
 go_wp2_with (first|((with_reducible refine gate_dst (N:=4) rfl ?_);refine Kd.R_lit Kd.string _ 9 ?hg (N:=4) ?hd (xs:=([(⟨#[97]⟩ : ByteArray),(⟨#[98]⟩ : ByteArray),(⟨#[110]⟩ : ByteArray),(⟨#[120]⟩ : ByteArray),(⟨#[108,111,110,103]⟩ : ByteArray)] : List ByteArray)) (inner:=[.string (⟨#[97]⟩ : ByteArray),.string (⟨#[98]⟩ : ByteArray),.string (⟨#[110]⟩ : ByteArray),.string (⟨#[120]⟩ : ByteArray),.string (⟨#[108,111,110,103]⟩ : ByteArray)]) (ok:=fun _ => True) (okp:=fun _ => True) ?hr ?hp (fun _ hk => hk) trivial (Below.refl _ _) (Nat.le_refl _) (by simp) ?_;(case hd => rfl);(case hg => rfl);(case hr => first|(go_simp;done)|(go_simp;rfl));(case hp => exact (Reps.one (show Kd.M Kd.string _ _ _ (⟨#[97]⟩ : ByteArray) [.string (⟨#[97]⟩ : ByteArray)] from rfl) (Reps.one (show Kd.M Kd.string _ _ _ (⟨#[98]⟩ : ByteArray) [.string (⟨#[98]⟩ : ByteArray)] from rfl) (Reps.one (show Kd.M Kd.string _ _ _ (⟨#[110]⟩ : ByteArray) [.string (⟨#[110]⟩ : ByteArray)] from rfl) (Reps.one (show Kd.M Kd.string _ _ _ (⟨#[120]⟩ : ByteArray) [.string (⟨#[120]⟩ : ByteArray)] from rfl) (Reps.one (show Kd.M Kd.string _ _ _ (⟨#[108,111,110,103]⟩ : ByteArray) [.string (⟨#[108,111,110,103]⟩ : ByteArray)] from rfl) (Reps.none _ _)))))));intro v263 w3 ho4 hb hg_ hnew_;clear hg_ hnew_;(first|rw [← Ny262.out] at ho4|(simp only [Int.reduceToNat] at ho4;rw [← Ny262.out] at ho4));have n0_:=zm_ (Kd.R_lower ho4 (keep_size (w:=w) (g:=g) (row:=none) zt6_1));have n1_:=zm_ (IsS109.below zt6_2 hb);have n2_:=zm_ (KeepBut.trans zt6_1 (KeepBut.of_below hb g none) (.inl rfl));have n3_:=zm_ (below_step zt6_5 hb);clear HI0;clear HK;clear HB;have HO264:=n0_;have HI0:=n1_;have HK:=n2_;have HB:=n3_;clear n0_ n1_ n2_ n3_;clear hb ho4;obtain ⟨Ao5,co5,eo5⟩:=Kd.R_slice HO264.out;subst eo5)|((with_reducible refine gate_callee (f:=78) rfl ?_);refine goesL_ (some 5) rfl rfl Try.func78 (by kernel_rfl) rfl #[.pointer (some ⟨g,0,none⟩),.slice Ao5 y262.length co5] rfl zq_ ?_;(with_reducible refine (spec_l01Pick.calls g s0_0 s0_1 s0_2 _ _ y262 t265 t266 t267 w0 _ ?side1 ?side2 ?side3 ?side4 ?side5 A2.out).mono ?_);(case side1 => repeat (first|(with_reducible first|exact HI0.out|apply IsS109.alloc|apply IsS109.drewN|apply IsS109.drew|apply IsS109.set_1|apply IsS109.set_2)|exact HI0.out));(case side2 => repeat (first|(with_reducible first|exact HB.out|apply za_|apply zn_|apply zd_|refine zs_ ?_ (IsS109.ge HI0.out))|exact HB.out));(case side3 => repeat (first|exact (Kd.R_reads' HO264.out).2.2|(with_reducible refine Kd.C_alloc ?_ _)|(with_reducible refine Kd.C_drewN ?_ _)|(with_reducible refine Kd.C_drew ?_)));(case side4 => exact (Kd.R_reads' HO264.out).2.1);(case side5 => exact far_slice (IsS109.own_ne HI0.out HO264.out (by decide)));rintro e w6 ⟨rfl,hi,hb,hk⟩;refine ⟨_,rfl,?_⟩;have n0_:=zm_ (Kd.R_mono (Kd.R_keep (IsS109.apart (show IsS109 w0 _ g s0_0 s0_1 s0_2 from zt6_2) (by (with_reducible repeat (first|apply Kd.R_alloc|apply Kd.R_drewN|apply Kd.R_drew));exact HO264.out) (by decide)) hk (fun _ h => h.2)) (fun _ h => h.1));have n1_:=zm_ (KeepBut.trans zt6_1 hk (.inl rfl));have n2_:=zm_ (hb);have n3_:=zm_ (hi);clear HO264;clear HK;clear HB;clear HI0;have HO264:=n0_;have HK:=n1_;have HB:=n2_;have HI0:=n3_;clear n0_ n1_ n2_ n3_;(try clear hb);(try clear hb2);(try clear hk);(try clear hi)))
 go_ret
 exact ⟨zE_,by repeat (first|(with_reducible first|exact HI0.out|apply IsS109.alloc|apply IsS109.drewN|apply IsS109.drew|apply IsS109.set_1|apply IsS109.set_2)|exact HI0.out),by repeat (first|(with_reducible first|exact HB.out|apply za_|apply zn_|apply zd_|refine zs_ ?_ (IsS109.ge HI0.out))|exact HB.out),by repeat (first|(with_reducible first|exact HK.out|apply KeepBut.set_|apply keep_drewN|apply keep_drew|apply keep_alloc)|exact HK.out)⟩

def spec_l03Env.l0 : Nat → List (S87) → Int → List Int → Int → Int → Option ((List (S87)) × Int × Int)
 |0,_,_,_,_,_ => none
 |k + 1,x3,x4,x1000,x1001,x1002 => (spec_l01Below.f x1000 x1001 x1002 5).bind fun bt271 => (if x4 < bt271.1 then ((spec_l03Name.f x1000 bt271.2.1 bt271.2.2).bind fun bt274 => ((spec_l01PickInt.f x1000 bt274.2.1 bt274.2.2 (([0,1,2,7,(-3),50,9999] : List Int))).bind fun bt280 => ((spec_EnvSet.f k x3 bt274.1 bt280.1).bind fun bt283 => (spec_l03Env.l0 k bt283.1 (wrap64 (x4 + 1)) x1000 bt280.2.1 bt280.2.2)))) else (some (x3,bt271.2.1,bt271.2.2)))
def spec_l03Env.f (k : Nat) (s0_0 : List Int) (s0_1 : Int) (s0_2 : Int) : Option ((List (S87)) × Int × Int):=spec_l03Env.l0 k (([] : List (S87))) 0 s0_0 s0_1 s0_2
theorem spec_l03Env.mono_l : ∀ k,(∀ y0 y1 y2 y3 y4,LeO (spec_l03Env.l0 k y0 y1 y2 y3 y4) (spec_l03Env.l0 (k + 1) y0 y1 y2 y3 y4))
 |0 => fun _ _ _ _ _ r h => by simp [spec_l03Env.l0] at h
 |k + 1 => by
  have ih0:=spec_l03Env.mono_l k
  ·intro y0 y1 y2 y3 y4
   unfold spec_l03Env.l0
   repeat' first
   |(with_reducible exact ih0 _ _ _ _ _)
   |(with_reducible exact spec_EnvSet.mono _ _ _ _)
   |(with_reducible exact LeO.refl _)
   |(with_reducible exact LeO.none _)
   |(with_reducible refine LeO.ite ?_ ?_)
   |(with_reducible refine LeO.bind ?_ (fun _ => ?_))
theorem spec_l03Env.mono : ∀ a0 a1 a2 k,LeO (spec_l03Env.f k a0 a1 a2) (spec_l03Env.f (k + 1) a0 a1 a2):=by
 intro a0 a1 a2 k
 have ih0:=spec_l03Env.mono_l k
 unfold spec_l03Env.f
 repeat' first
   |(with_reducible exact ih0 _ _ _ _ _)
   |(with_reducible exact spec_EnvSet.mono _ _ _ _)
   |(with_reducible exact LeO.refl _)
   |(with_reducible exact LeO.none _)
   |(with_reducible refine LeO.ite ?_ ?_)
   |(with_reducible refine LeO.bind ?_ (fun _ => ?_))
set_option maxHeartbeats 8000000 in
set_option maxRecDepth 100000 in
theorem spec_l03Env.calls (k : Nat) (g : Nat) (s0_0 : List Int) (s0_1 : Int) (s0_2 : Int) (r1 : List (S87)) (r2 : Int) (r3 : Int) (w0 w : World) (hI : IsS109 w0 w g s0_0 s0_1 s0_2) (hB : Below w0.heap.size w0 w) (h : spec_l03Env.f k s0_0 s0_1 s0_2 = some (r1,r2,r3)) :
  Calls Try.prog 54 #[.pointer (some ⟨g,0,none⟩)] w fun e w' => ∃ v0_ : Value,e = .returned (v0_) ∧ Kd.R k87 87 w' w.heap.size (fun _ => True) v0_ r1 ∧ IsS109 w0 w' g s0_0 r2 r3 ∧ Below w0.heap.size w0 w' ∧ KeepBut w w' g none:=by
 have HI0:=zm_ hI
 have HK:=zm_ (KeepBut.refl w g none)
 have HL:=zm_ hB.size
 clear hI
 have HW0:=zm_ hB.size
 have HB:=zm_ hB
 clear hB
 have H : (spec_l03Env.l0 k (([] : List (S87))) 0 s0_0 s0_1 s0_2) = some (r1,r2,r3):=h
 clear h
 obtain ⟨y268,hy268⟩ : ∃ y_ : List (S87),y_ = (([] : List (S87))):=⟨_,rfl⟩
 replace H : (spec_l03Env.l0 k y268 0 s0_0 s0_1 s0_2) = some (r1,r2,r3):=by first|(rw [hy268];with_reducible exact H)|(have H2_:=(Option.bind_some _ _).symm.trans H;rw [hy268];with_reducible exact H2_)|(have H2_:=(Option.bind_some _ _).symm.trans H;with_reducible exact H2_)|with_reducible exact H|(rw [hy268];exact H)|exact H
 have Ny268:=zm_ hy268
 clear hy268
 have H':=zm_ H
 clear H
 go_enter Try.func54,Try.ntmps54
 go_wp2_with (first|((with_reducible refine gate_dst (N:=5) rfl ?_);refine Kd.R_lit k87 _ 87 ?hg (N:=5) ?hd (xs:=([] : List (S87))) (inner:=[]) (ok:=fun _ => True) (okp:=fun _ => True) ?hr ?hp (fun _ hk => hk) trivial (Below.refl _ _) (Nat.le_refl _) (by simp) ?_;(case hd => rfl);(case hg => rfl);(case hr => first|(go_simp;done)|(go_simp;rfl));(case hp => exact (Reps.none _ _));intro v269 w2 ho3 hb hg_ hnew_;clear hg_ hnew_;(first|rw [← Ny268.out] at ho3|(simp only [Int.reduceToNat] at ho3;rw [← Ny268.out] at ho3));have n0_:=zm_ (Kd.R_lower ho3 (keep_size (w:=w) (g:=g) (row:=none) zt6_1));have n1_:=zm_ (IsS109.below zt6_2 hb);have n2_:=zm_ (KeepBut.trans zt6_1 (KeepBut.of_below hb g none) (.inl rfl));have n3_:=zm_ (below_step zt6_5 hb);clear HI0;clear HK;clear HB;have HO270:=n0_;have HI0:=n1_;have HK:=n2_;have HB:=n3_;clear n0_ n1_ n2_ n3_;clear hb ho3))
 go_loopg [3,4] k (fun kq v3 v4 w' => ∃ (x3_1 : List (S87)) (x4_1 : Int) (x1001_1 : Int) (x1002_1 : Int),v4 = .int .i64 x4_1 ∧ Aside0 (spec_l03Env.l0 kq x3_1 x4_1 s0_0 x1001_1 x1002_1 = some (r1,r2,r3)) ∧ Aside0 (kq ≤ k) ∧ Aside0 (Kd.R k87 87 w' w.heap.size (fun _ => True) v3 x3_1) ∧ Aside0 (IsS109 w0 w' g s0_0 x1001_1 x1002_1) ∧ Aside0 (KeepBut w w' g none) ∧ Aside0 (Below w0.heap.size w0 w'))
 case atStart => exact ⟨(y268),(0),(s0_1),(s0_2),zV_,H',⟨Nat.le_refl _⟩,⟨by (with_reducible repeat (first|apply Kd.R_alloc|apply Kd.R_drewN|apply Kd.R_drew));exact HO270.out⟩,⟨by repeat (first|(with_reducible first|exact HI0.out|apply IsS109.alloc|apply IsS109.drewN|apply IsS109.drew|apply IsS109.set_1|apply IsS109.set_2)|exact HI0.out)⟩,⟨by repeat (first|(with_reducible first|exact HK.out|apply KeepBut.set_|apply keep_drewN|apply keep_drew|apply keep_alloc)|exact HK.out)⟩,⟨by repeat (first|(with_reducible first|exact HB.out|apply za_|apply zn_|apply zd_|refine zs_ ?_ (IsS109.ge HI0.out))|exact HB.out)⟩⟩
 case round =>
  clear H'
  try clear p2
  obtain ⟨x3_1,x4_1,x1001_1,x1002_1,rfl,HA,HK1,HO_3,HI0,HK,HB⟩:=hrel
  cases gk with
  |zero => exact absurd HA.out (by simp [spec_l03Env.l0])
  |succ k1 =>
   have H:=HA.out
   clear HA
   simp only [spec_l03Env.l0] at H
   replace H:=Option.bind_eq_some_iff.mp H
   obtain ⟨⟨t271,t272,t273⟩,A40,H⟩:=H
   replace H : (if x4_1 < t271 then ((spec_l03Name.f s0_0 t272 t273).bind fun bt274 => ((spec_l01PickInt.f s0_0 bt274.2.1 bt274.2.2 (([0,1,2,7,(-3),50,9999] : List Int))).bind fun bt280 => ((spec_EnvSet.f k1 x3_1 bt274.1 bt280.1).bind fun bt283 => (spec_l03Env.l0 k1 bt283.1 (wrap64 (x4_1 + 1)) s0_0 bt280.2.1 bt280.2.2)))) else (some (x3_1,t272,t273))) = some (r1,r2,r3):=H
   have A4:=zm_ A40
   clear A40
   by_cases c5 : x4_1 < t271
   ·rw [if_pos c5] at H
    have c5b0 : decide (x4_1 < t271) = true:=decide_eq_true c5
    clear c5
    replace H:=Option.bind_eq_some_iff.mp H
    obtain ⟨⟨t274,t275,t276⟩,A60,H⟩:=H
    replace H : ((spec_l01PickInt.f s0_0 t275 t276 (([0,1,2,7,(-3),50,9999] : List Int))).bind fun bt280 => ((spec_EnvSet.f k1 x3_1 t274 bt280.1).bind fun bt283 => (spec_l03Env.l0 k1 bt283.1 (wrap64 (x4_1 + 1)) s0_0 bt280.2.1 bt280.2.2))) = some (r1,r2,r3):=H
    have A6:=zm_ A60
    clear A60
    obtain ⟨y277,hy277⟩ : ∃ y_ : List Int,y_ = (([0,1,2,7,(-3),50,9999] : List Int)):=⟨_,rfl⟩
    replace H : ((spec_l01PickInt.f s0_0 t275 t276 y277).bind fun bt280 => ((spec_EnvSet.f k1 x3_1 t274 bt280.1).bind fun bt283 => (spec_l03Env.l0 k1 bt283.1 (wrap64 (x4_1 + 1)) s0_0 bt280.2.1 bt280.2.2))) = some (r1,r2,r3):=by first|(rw [hy277];with_reducible exact H)|(have H2_:=(Option.bind_some _ _).symm.trans H;rw [hy277];with_reducible exact H2_)|(have H2_:=(Option.bind_some _ _).symm.trans H;with_reducible exact H2_)|with_reducible exact H|(rw [hy277];exact H)|exact H
    have Ny277:=zm_ hy277
    clear hy277
    replace H:=Option.bind_eq_some_iff.mp H
    obtain ⟨⟨t280,t281,t282⟩,A70,H⟩:=H
    replace H : ((spec_EnvSet.f k1 x3_1 t274 t280).bind fun bt283 => (spec_l03Env.l0 k1 bt283.1 (wrap64 (x4_1 + 1)) s0_0 t281 t282)) = some (r1,r2,r3):=H
    have A7:=zm_ A70
    clear A70
    replace H:=Option.bind_eq_some_iff.mp H
    obtain ⟨⟨t283,t284⟩,A80,H⟩:=H
    replace H : (spec_l03Env.l0 k1 t283 (wrap64 (x4_1 + 1)) s0_0 t281 t282) = some (r1,r2,r3):=H
    have A8:=zm_ A80
    clear A80
    have H':=zm_ H
    clear H
    go_wp2_with (first|((with_reducible refine gate_callee (f:=43) rfl ?_);refine goesL_ (some 8) rfl rfl Try.func43 (by kernel_rfl) rfl #[.pointer (some ⟨g,0,none⟩),.int .i64 5] rfl zq_ ?_;(with_reducible refine (spec_l01Below.calls g s0_0 x1001_1 x1002_1 5 t271 t272 t273 w0 _ ?side1 ?side2 A4.out).mono ?_);(case side1 => repeat (first|(with_reducible first|exact HI0.out|apply IsS109.alloc|apply IsS109.drewN|apply IsS109.drew|apply IsS109.set_1|apply IsS109.set_2)|exact HI0.out));(case side2 => repeat (first|(with_reducible first|exact HB.out|apply za_|apply zn_|apply zd_|refine zs_ ?_ (IsS109.ge HI0.out))|exact HB.out));rintro e w9 ⟨rfl,hi,hb,hk⟩;refine ⟨_,rfl,?_⟩;have n0_:=zm_ (Kd.R_mono (Kd.R_keep (IsS109.apart (show IsS109 w0 _ g s0_0 x1001_1 x1002_1 from zt6_2) zt6_4 (by decide)) hk (fun _ h => h.2)) (fun _ h => h.1));have n1_:=zm_ (KeepBut.trans zt6_1 hk (.inl rfl));have n2_:=zm_ (hb);have n3_:=zm_ (hi);clear HO_3;clear HK;clear HB;clear HI0;have HO_3:=n0_;have HK:=n1_;have HB:=n2_;have HI0:=n3_;clear n0_ n1_ n2_ n3_;(try clear hb);(try clear hb2);(try clear hk);(try clear hi))|((with_reducible refine gate_callee (f:=84) rfl ?_);refine goesL_ (some 15) rfl rfl Try.func84 (by kernel_rfl) rfl #[.pointer (some ⟨g,0,none⟩)] rfl zq_ ?_;(with_reducible refine (spec_l03Name.calls g s0_0 t272 t273 t274 t275 t276 w0 _ ?side1 ?side2 A6.out).mono ?_);(case side1 => repeat (first|(with_reducible first|exact HI0.out|apply IsS109.alloc|apply IsS109.drewN|apply IsS109.drew|apply IsS109.set_1|apply IsS109.set_2)|exact HI0.out));(case side2 => repeat (first|(with_reducible first|exact HB.out|apply za_|apply zn_|apply zd_|refine zs_ ?_ (IsS109.ge HI0.out))|exact HB.out));rintro e w10 ⟨rfl,hi,hb,hk⟩;refine ⟨_,rfl,?_⟩;have n0_:=zm_ (Kd.R_mono (Kd.R_keep (IsS109.apart (show IsS109 w0 _ g s0_0 t272 t273 from zt6_2) zt6_4 (by decide)) hk (fun _ h => h.2)) (fun _ h => h.1));have n1_:=zm_ (KeepBut.trans zt6_1 hk (.inl rfl));have n2_:=zm_ (hb);have n3_:=zm_ (hi);clear HO_3;clear HK;clear HB;clear HI0;have HO_3:=n0_;have HK:=n1_;have HB:=n2_;have HI0:=n3_;clear n0_ n1_ n2_ n3_;(try clear hb);(try clear hb2);(try clear hk);(try clear hi))|((with_reducible refine gate_dst (N:=17) rfl ?_);refine Kd.R_lit (Kd.int .i64) _ 3 ?hg (N:=17) ?hd (xs:=([0,1,2,7,(-3),50,9999] : List Int)) (inner:=[.int .i64 0,.int .i64 1,.int .i64 2,.int .i64 7,.int .i64 (-3),.int .i64 50,.int .i64 9999]) (ok:=fun _ => True) (okp:=fun _ => True) ?hr ?hp (fun _ hk => hk) trivial (Below.refl _ _) (Nat.le_refl _) (by simp) ?_;(case hd => rfl);(case hg => rfl);(case hr => first|(go_simp;done)|(go_simp;rfl));(case hp => exact (Reps.one (show Kd.M (Kd.int .i64) _ _ _ 0 [.int .i64 0] from rfl) (Reps.one (show Kd.M (Kd.int .i64) _ _ _ 1 [.int .i64 1] from rfl) (Reps.one (show Kd.M (Kd.int .i64) _ _ _ 2 [.int .i64 2] from rfl) (Reps.one (show Kd.M (Kd.int .i64) _ _ _ 7 [.int .i64 7] from rfl) (Reps.one (show Kd.M (Kd.int .i64) _ _ _ (-3) [.int .i64 (-3)] from rfl) (Reps.one (show Kd.M (Kd.int .i64) _ _ _ 50 [.int .i64 50] from rfl) (Reps.one (show Kd.M (Kd.int .i64) _ _ _ 9999 [.int .i64 9999] from rfl) (Reps.none _ _)))))))));intro v278 w11 ho12 hb hg_ hnew_;clear hg_ hnew_;(first|rw [← Ny277.out] at ho12|(simp only [Int.reduceToNat] at ho12;rw [← Ny277.out] at ho12));have n0_:=zm_ (Kd.R_below zt6_4 hb);have n1_:=zm_ (Kd.R_lower ho12 (keep_size (w:=w) (g:=g) (row:=none) zt6_1));have n2_:=zm_ (IsS109.below zt6_2 hb);have n3_:=zm_ (KeepBut.trans zt6_1 (KeepBut.of_below hb g none) (.inl rfl));have n4_:=zm_ (below_step zt6_5 hb);clear HO_3;clear HI0;clear HK;clear HB;have HO_3:=n0_;have HO279:=n1_;have HI0:=n2_;have HK:=n3_;have HB:=n4_;clear n0_ n1_ n2_ n3_ n4_;clear hb ho12;obtain ⟨Ao13,co13,eo13⟩:=Kd.R_slice HO279.out;subst eo13)|((with_reducible refine gate_callee (f:=77) rfl ?_);refine goesL_ (some 18) rfl rfl Try.func77 (by kernel_rfl) rfl #[.pointer (some ⟨g,0,none⟩),.slice Ao13 y277.length co13] rfl zq_ ?_;(with_reducible refine (spec_l01PickInt.calls g s0_0 t275 t276 _ _ y277 t280 t281 t282 w0 _ ?side1 ?side2 ?side3 ?side4 ?side5 A7.out).mono ?_);(case side1 => repeat (first|(with_reducible first|exact HI0.out|apply IsS109.alloc|apply IsS109.drewN|apply IsS109.drew|apply IsS109.set_1|apply IsS109.set_2)|exact HI0.out));(case side2 => repeat (first|(with_reducible first|exact HB.out|apply za_|apply zn_|apply zd_|refine zs_ ?_ (IsS109.ge HI0.out))|exact HB.out));(case side3 => repeat (first|exact (Kd.R_reads' HO279.out).2.2|(with_reducible refine Kd.C_alloc ?_ _)|(with_reducible refine Kd.C_drewN ?_ _)|(with_reducible refine Kd.C_drew ?_)));(case side4 => exact (Kd.R_reads' HO279.out).2.1);(case side5 => exact far_slice (IsS109.own_ne HI0.out HO279.out (by decide)));rintro e w14 ⟨rfl,hi,hb,hk⟩;refine ⟨_,rfl,?_⟩;have n0_:=zm_ (Kd.R_mono (Kd.R_keep (IsS109.apart (show IsS109 w0 _ g s0_0 t275 t276 from zt6_2) zt6_4 (by decide)) hk (fun _ h => h.2)) (fun _ h => h.1));have n1_:=zm_ (Kd.R_mono (Kd.R_keep (IsS109.apart (show IsS109 w0 _ g s0_0 t275 t276 from zt6_2) (by (with_reducible repeat (first|apply Kd.R_alloc|apply Kd.R_drewN|apply Kd.R_drew));exact HO279.out) (by decide)) hk (fun _ h => h.2)) (fun _ h => h.1));have n2_:=zm_ (KeepBut.trans zt6_1 hk (.inl rfl));have n3_:=zm_ (hb);have n4_:=zm_ (hi);clear HO_3;clear HO279;clear HK;clear HB;clear HI0;have HO_3:=n0_;have HO279:=n1_;have HK:=n2_;have HB:=n3_;have HI0:=n4_;clear n0_ n1_ n2_ n3_ n4_;(try clear hb);(try clear hb2);(try clear hk);(try clear hi);obtain ⟨Ao15,co15,eo15⟩:=Kd.R_slice HO_3.out;subst eo15)|((with_reducible refine gate_callee (f:=83) rfl ?_);refine goesL_ (some 19) rfl rfl Try.func83 (by kernel_rfl) rfl #[.slice Ao15 x3_1.length co15,.string t274,.int .i64 t280] rfl zq_ ?_;(with_reducible refine (spec_EnvSet.calls k1 _ _ x3_1 t274 t280 t283 t284 _ ?side1 ?side2 A8.out).mono ?_);(case side1 => repeat (first|exact (Kd.R_reads' HO_3.out).2.2|(with_reducible refine Kd.C_alloc ?_ _)|(with_reducible refine Kd.C_drewN ?_ _)|(with_reducible refine Kd.C_drew ?_)));(case side2 => exact (Kd.R_reads' HO_3.out).2.1);rintro e w16 ⟨v285,rfl,ho0,hb⟩;refine ⟨_,rfl,?_⟩;have n0_:=zm_ (Kd.R_elder' zt6_4 (Kd.R_base ho0) hb);have n1_:=zm_ (Kd.R_below (by (with_reducible repeat (first|apply Kd.R_alloc|apply Kd.R_drewN|apply Kd.R_drew));exact HO279.out) hb);have n2_:=zm_ (Kd.R_lower (Kd.R_new' ho0 (Kd.R_lt zt6_4)) (keep_size (w:=w) (g:=g) (row:=none) zt6_1));have n3_:=zm_ (IsS109.below zt6_2 hb);have n4_:=zm_ (KeepBut.trans zt6_1 (KeepBut.of_below hb g none) (.inl rfl));have n5_:=zm_ (below_step zt6_5 hb);clear HO_3;clear HO279;clear HI0;clear HK;clear HB;have HO_3:=n0_;have HO279:=n1_;have HO286:=n2_;have HI0:=n3_;have HK:=n4_;have HB:=n5_;clear n0_ n1_ n2_ n3_ n4_ n5_;(try clear hb);(try clear hb2);(try clear hk);(try clear hi);(try clear ho0)))
    go_roundg k1
    case measure => have:=HK1.out;omega
    case rel => exact ⟨(t283),(wrap64 (x4_1 + 1)),(t281),(t282),zV_,H',⟨by have:=HK1.out;omega⟩,⟨by (with_reducible repeat (first|apply Kd.R_alloc|apply Kd.R_drewN|apply Kd.R_drew));exact Kd.R_mono HO286.out (fun _ hk => trivial)⟩,⟨by repeat (first|(with_reducible first|exact HI0.out|apply IsS109.alloc|apply IsS109.drewN|apply IsS109.drew|apply IsS109.set_1|apply IsS109.set_2)|exact HI0.out)⟩,⟨by repeat (first|(with_reducible first|exact HK.out|apply KeepBut.set_|apply keep_drewN|apply keep_drew|apply keep_alloc)|exact HK.out)⟩,⟨by repeat (first|(with_reducible first|exact HB.out|apply za_|apply zn_|apply zd_|refine zs_ ?_ (IsS109.ge HI0.out))|exact HB.out)⟩⟩
   ·rw [if_neg c5] at H
    have c5b0 : decide (x4_1 < t271) = false:=decide_eq_false c5
    clear c5
    simp only [Option.some.injEq,Prod.mk.injEq] at H
    obtain ⟨rfl,rfl,rfl⟩:=H
    go_wp2_with (first|((with_reducible refine gate_callee (f:=43) rfl ?_);refine goesL_ (some 8) rfl rfl Try.func43 (by kernel_rfl) rfl #[.pointer (some ⟨g,0,none⟩),.int .i64 5] rfl zq_ ?_;(with_reducible refine (spec_l01Below.calls g s0_0 x1001_1 x1002_1 5 t271 t272 t273 w0 _ ?side1 ?side2 A4.out).mono ?_);(case side1 => repeat (first|(with_reducible first|exact HI0.out|apply IsS109.alloc|apply IsS109.drewN|apply IsS109.drew|apply IsS109.set_1|apply IsS109.set_2)|exact HI0.out));(case side2 => repeat (first|(with_reducible first|exact HB.out|apply za_|apply zn_|apply zd_|refine zs_ ?_ (IsS109.ge HI0.out))|exact HB.out));rintro e w17 ⟨rfl,hi,hb,hk⟩;refine ⟨_,rfl,?_⟩;have n0_:=zm_ (Kd.R_mono (Kd.R_keep (IsS109.apart (show IsS109 w0 _ g s0_0 x1001_1 x1002_1 from zt6_2) zt6_4 (by decide)) hk (fun _ h => h.2)) (fun _ h => h.1));have n1_:=zm_ (KeepBut.trans zt6_1 hk (.inl rfl));have n2_:=zm_ (hb);have n3_:=zm_ (hi);clear HO_3;clear HK;clear HB;clear HI0;have HO_3:=n0_;have HK:=n1_;have HB:=n2_;have HI0:=n3_;clear n0_ n1_ n2_ n3_;(try clear hb);(try clear hb2);(try clear hk);(try clear hi)))
    go_ret
    exact ⟨_,by first|rfl|(simp [errW_none,errW_some] <;> rfl)|(simp [*,errW_none,errW_some] <;> rfl),by (with_reducible repeat (first|apply Kd.R_alloc|apply Kd.R_drewN|apply Kd.R_drew));exact HO_3.out,by repeat (first|(with_reducible first|exact HI0.out|apply IsS109.alloc|apply IsS109.drewN|apply IsS109.drew|apply IsS109.set_1|apply IsS109.set_2)|exact HI0.out),by repeat (first|(with_reducible first|exact HB.out|apply za_|apply zn_|apply zd_|refine zs_ ?_ (IsS109.ge HI0.out))|exact HB.out),by repeat (first|(with_reducible first|exact HK.out|apply KeepBut.set_|apply keep_drewN|apply keep_drew|apply keep_alloc)|exact HK.out)⟩

end Go.Proofs.Ytnmhggdaccbbfaa.MFnExprs
