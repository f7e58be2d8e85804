import Derived.Test.YtkbgmojomgelbaaGreatMFnExactGrammarOkx0
import Derived.Test.YtkbgmojomgelbaaGreatMFnExactGrammarOkx2
import Derived.Test.YtkbgmojomgelbaaGreatMFnExactGrammarOkx3
namespace Go.Proofs.YtkbgmojomgelbaaGreat.MFnExactGrammarOk
open Go.RowKit Go.Proofs.YtkbgmojomgelbaaGreatW.PrintWords Go.Proofs.YtkbgmojomgelbaaGreatW.PrintLast Go.Proofs.YtkbgmojomgelbaaGreatW.PrintMore
attribute [local go_sem] max2_int min2_int max_two min_two max_three min_three max_four min_four
set_option linter.unusedVariables false
set_option linter.unusedSimpArgs false
set_option maxHeartbeats 8000000
set_option maxRecDepth 100000
theorem zt4_1 {p : Prop} (h : p := by (try simp only [List.map_toArray,List.map_cons,List.map_nil]);first|done|(simp only [hji15];rfl)|rfl|(simp only [List.length_drop,List.length_take];rfl)) : p := h

def spec_l06Params.l0 : Nat → List ByteArray → Int → Option (Bool)
 |0,_,_ => none
 |k + 1,x0,x3 => if x3 < (x0.length : Int) then (if 0 ≤ x3 then ((spec_VarName.f k (rdOf ByteArray.empty x0 x3)).bind fun t130 => (if t130 = true then (if x3 > 0 then (if 0 ≤ (wrap64 (x3 - 1)) then (if (wrap64 (x3 - 1)) < (x0.length : Int) then (if ((Op.bytesLess ((rdOf ByteArray.empty x0 (wrap64 (x3 - 1))).toList) ((rdOf ByteArray.empty x0 x3).toList)) = true) then (spec_l06Params.l0 k x0 (wrap64 (x3 + 1))) else (some false)) else (none)) else (none)) else (spec_l06Params.l0 k x0 (wrap64 (x3 + 1)))) else (some false))) else (none)) else (some (decide ((x0.length : Int) ≤ 6)))
def spec_l06Params.f (k : Nat) (l0 : List ByteArray) : Option (Bool):=spec_l06Params.l0 k l0 0
theorem spec_l06Params.calls (k : Nat) (A0 : Option Addr) (c0 : Nat) (l0 : List ByteArray) (r : Bool) (w : World) (hr0 : Kd.C Kd.string w A0 l0.length l0) (hc0 : l0.length ≤ c0) (h : spec_l06Params.f k l0 = some r) :
  Calls Tryz.prog 35 #[.slice A0 l0.length c0] w fun e w' => e = .returned (.bool r) ∧ Drawn0 w w':=by
 have HR0:=zm_ hr0
 have HC0:=zm_ hc0
 clear hr0 hc0
 have H : (spec_l06Params.l0 k l0 0) = some r:=h
 clear h
 have H':=zm_ H
 clear H
 go_enter Tryz.func35,Tryz.ntmps35
 go_wp2
 repeat (go_quiet (fail);try go_wp2)
 go_loopg [3] k (fun kq v3 w' => ∃ (x3_1 : Int),v3 = .int .i64 x3_1 ∧ Aside0 (spec_l06Params.l0 kq l0 x3_1 = some r) ∧ Aside0 (kq ≤ k) ∧ Drawn0 w w')
 case atStart => exact ⟨(0),zV_,H',⟨Nat.le_refl _⟩,by repeat (first|exact Drawn0.refl _|apply Drawn0.step)⟩
 case round =>
  clear H'
  obtain ⟨x3_1,rfl,HA,HK1,⟨m1,rfl⟩⟩:=hrel
  cases gk with
  |zero => exact absurd HA.out (by simp [spec_l06Params.l0])
  |succ k1 =>
   have H:=HA.out
   clear HA
   simp only [spec_l06Params.l0] at H
   by_cases c2 : x3_1 < (l0.length : Int)
   rotate_left
   ·rw [if_neg c2] at H
    have c2b0:=decide_eq_false c2
    clear c2
    obtain rfl:=zi_ H
    go_wp2
    repeat (go_quiet (fail);try go_wp2)
    go_ret
    exact zX_


   rw [if_pos c2] at H
   have c2b0:=decide_eq_true c2
   clear c2
   by_cases c3 : 0 ≤ x3_1
   rotate_left
   ·rw [if_neg c3] at H
    cases H
   rw [if_pos c3] at H
   have c3b0:=decide_eq_true c3
   clear c3
   obtain ⟨t130,A4,H⟩:=zJ_ H
   try dsimp only at H
   by_cases c5 : t130 = true
   rotate_left
   ·replace c5:=Bool.eq_false_iff.mpr c5
    subst c5
    rw [zF_] at H
    obtain rfl:=zi_ H
    have p129 : 0 ≤ (x3_1 : Int):=zo_
    have q129 : x3_1 < (l0.length : Int):=zo_
    obtain ⟨ad129,e129,hx129_0⟩:=Kd.at_string HR0.out x3_1 p129 q129
    cases e129
    replace p129:=eq_true p129
    replace q129:=eq_true q129
    go_wp2_with (first|(go_at_call 64;(with_reducible refine (spec_VarName.calls k1 (rdOf ByteArray.empty l0 x3_1) false _ A4.out).mono ?_);rintro e w' ⟨rfl,⟨nd,rfl⟩⟩;(try exact zY_)))
    repeat (go_quiet (first|(go_at_call 64;(with_reducible refine (spec_VarName.calls k1 (rdOf ByteArray.empty l0 x3_1) false _ A4.out).mono ?_);rintro e w' ⟨rfl,⟨nd,rfl⟩⟩;(try exact zY_)));try go_wp2_with (first|(go_at_call 64;(with_reducible refine (spec_VarName.calls k1 (rdOf ByteArray.empty l0 x3_1) false _ A4.out).mono ?_);rintro e w' ⟨rfl,⟨nd,rfl⟩⟩;(try exact zY_))))
    go_ret
    exact zX_
   subst c5
   rw [if_pos rfl] at H
   by_cases c6 : x3_1 > 0
   rotate_left
   ·rw [if_neg c6] at H
    have c6b0 : decide (0 < x3_1) = false:=decide_eq_false c6
    clear c6
    have H':=zm_ H
    clear H
    have p129 : 0 ≤ (x3_1 : Int):=zo_
    have q129 : x3_1 < (l0.length : Int):=zo_
    obtain ⟨ad129,e129,hx129_0⟩:=Kd.at_string HR0.out x3_1 p129 q129
    cases e129
    replace p129:=eq_true p129
    replace q129:=eq_true q129
    go_wp2_with (first|(go_at_call 64;(with_reducible refine (spec_VarName.calls k1 (rdOf ByteArray.empty l0 x3_1) true _ A4.out).mono ?_);rintro e w' ⟨rfl,⟨nd,rfl⟩⟩;(try exact zY_)))
    repeat (go_quiet (first|(go_at_call 64;(with_reducible refine (spec_VarName.calls k1 (rdOf ByteArray.empty l0 x3_1) true _ A4.out).mono ?_);rintro e w' ⟨rfl,⟨nd,rfl⟩⟩;(try exact zY_)));try go_wp2_with (first|(go_at_call 64;(with_reducible refine (spec_VarName.calls k1 (rdOf ByteArray.empty l0 x3_1) true _ A4.out).mono ?_);rintro e w' ⟨rfl,⟨nd,rfl⟩⟩;(try exact zY_))))
    go_roundg k1
    case measure => have:=HK1.out;omega
    case rel => exact ⟨(wrap64 (x3_1 + 1)),zV_,H',⟨by have:=HK1.out;omega⟩,by repeat (first|exact Drawn0.refl _|apply Drawn0.step)⟩
   rw [if_pos c6] at H
   have c6b0 : decide (0 < x3_1) = true:=decide_eq_true c6
   clear c6
   obtain ⟨ji7,hji7⟩ : ∃ j_ : Int,(wrap64 (x3_1 - 1)) = j_:=⟨_,rfl⟩
   replace H : (if 0 ≤ (ji7) then (if (ji7) < (l0.length : Int) then (if ((Op.bytesLess ((rdOf ByteArray.empty l0 (ji7)).toList) ((rdOf ByteArray.empty l0 x3_1).toList)) = true) then (spec_l06Params.l0 k1 l0 (wrap64 (x3_1 + 1))) else (some false)) else (none)) else (none)) = some r:=by first|(rw [hji7] at H;exact H)|(simp only [hji7] at H ⊢;exact H)
   (try rw [hji7] at A4)
   have hji7w : (IntKind.i64.wrap (x3_1 - 1)) = ji7:=(i64_w _).trans hji7
   by_cases c8 : 0 ≤ (ji7)
   rotate_left
   ·rw [if_neg c8] at H
    cases H
   rw [if_pos c8] at H
   have c8b0:=decide_eq_true c8
   clear c8
   by_cases c9 : (ji7) < (l0.length : Int)
   rotate_left
   ·rw [if_neg c9] at H
    cases H
   rw [if_pos c9] at H
   have c9b0:=decide_eq_true c9
   clear c9
   by_cases c10 : ((Op.bytesLess ((rdOf ByteArray.empty l0 (ji7)).toList) ((rdOf ByteArray.empty l0 x3_1).toList)) = true)
   rotate_left
   ·rw [if_neg c10] at H
    have c10b0 : (Op.bytesLess ((rdOf ByteArray.empty l0 (ji7)).toList) ((rdOf ByteArray.empty l0 x3_1).toList)) = false:=by simpa using c10
    clear c10
    obtain rfl:=zi_ H
    have p129 : 0 ≤ (x3_1 : Int):=zo_
    have q129 : x3_1 < (l0.length : Int):=zo_
    obtain ⟨ad129,e129,hx129_0⟩:=Kd.at_string HR0.out x3_1 p129 q129
    cases e129
    replace p129:=eq_true p129
    replace q129:=eq_true q129
    have p131 : 0 ≤ ((ji7) : Int):=zo_
    have q131 : (ji7) < (l0.length : Int):=zo_
    obtain ⟨ad131,e131,hx131_0⟩:=Kd.at_string HR0.out (ji7) p131 q131
    obtain rfl : ad129 = ad131:=(by injection e131)
    replace p131:=eq_true p131
    replace q131:=eq_true q131
    have p132 : 0 ≤ (x3_1 : Int):=zo_
    have q132 : x3_1 < (l0.length : Int):=zo_
    obtain ⟨ad132,e132,hx132_0⟩:=Kd.at_string HR0.out x3_1 p132 q132
    obtain rfl : ad129 = ad132:=(by injection e132)
    replace p132:=eq_true p132
    replace q132:=eq_true q132
    go_wp2_with (first|(go_at_call 64;(with_reducible refine (spec_VarName.calls k1 (rdOf ByteArray.empty l0 x3_1) true _ A4.out).mono ?_);rintro e w' ⟨rfl,⟨nd,rfl⟩⟩;(try exact zY_)))
    repeat (go_quiet (first|(go_at_call 64;(with_reducible refine (spec_VarName.calls k1 (rdOf ByteArray.empty l0 x3_1) true _ A4.out).mono ?_);rintro e w' ⟨rfl,⟨nd,rfl⟩⟩;(try exact zY_)));try go_wp2_with (first|(go_at_call 64;(with_reducible refine (spec_VarName.calls k1 (rdOf ByteArray.empty l0 x3_1) true _ A4.out).mono ?_);rintro e w' ⟨rfl,⟨nd,rfl⟩⟩;(try exact zY_))))
    go_ret
    exact ⟨by first|rfl|(simp;done)|(simp only [← hji7] <;> (first|rfl|simp))|(simp [*];done),by repeat (first|exact Drawn0.refl _|apply Drawn0.step)⟩
   rw [if_pos c10] at H
   have c10b0 : (Op.bytesLess ((rdOf ByteArray.empty l0 (ji7)).toList) ((rdOf ByteArray.empty l0 x3_1).toList)) = true:=c10
   clear c10
   have H':=zm_ H
   clear H
   have p129 : 0 ≤ (x3_1 : Int):=zo_
   have q129 : x3_1 < (l0.length : Int):=zo_
   obtain ⟨ad129,e129,hx129_0⟩:=Kd.at_string HR0.out x3_1 p129 q129
   cases e129
   replace p129:=eq_true p129
   replace q129:=eq_true q129
   have p131 : 0 ≤ ((ji7) : Int):=zo_
   have q131 : (ji7) < (l0.length : Int):=zo_
   obtain ⟨ad131,e131,hx131_0⟩:=Kd.at_string HR0.out (ji7) p131 q131
   obtain rfl : ad129 = ad131:=(by injection e131)
   replace p131:=eq_true p131
   replace q131:=eq_true q131
   have p132 : 0 ≤ (x3_1 : Int):=zo_
   have q132 : x3_1 < (l0.length : Int):=zo_
   obtain ⟨ad132,e132,hx132_0⟩:=Kd.at_string HR0.out x3_1 p132 q132
   obtain rfl : ad129 = ad132:=(by injection e132)
   replace p132:=eq_true p132
   replace q132:=eq_true q132
   go_wp2_with (first|(go_at_call 64;(with_reducible refine (spec_VarName.calls k1 (rdOf ByteArray.empty l0 x3_1) true _ A4.out).mono ?_);rintro e w' ⟨rfl,⟨nd,rfl⟩⟩;(try exact zY_)))
   repeat (go_quiet (first|(go_at_call 64;(with_reducible refine (spec_VarName.calls k1 (rdOf ByteArray.empty l0 x3_1) true _ A4.out).mono ?_);rintro e w' ⟨rfl,⟨nd,rfl⟩⟩;(try exact zY_)));try go_wp2_with (first|(go_at_call 64;(with_reducible refine (spec_VarName.calls k1 (rdOf ByteArray.empty l0 x3_1) true _ A4.out).mono ?_);rintro e w' ⟨rfl,⟨nd,rfl⟩⟩;(try exact zY_))))
   go_roundg k1
   case measure => have:=HK1.out;omega
   case rel => exact ⟨(wrap64 (x3_1 + 1)),zV_,H',⟨by have:=HK1.out;omega⟩,by repeat (first|exact Drawn0.refl _|apply Drawn0.step)⟩
def spec_l05Byte.f (a0 : Int) : Option (Bool):=if a0 ≥ 97 then (if a0 ≤ 122 then (some true) else (if a0 ≥ 48 then (some (decide (a0 ≤ 57))) else (some false))) else (if a0 ≥ 48 then (some (decide (a0 ≤ 57))) else (some false))
theorem spec_l05Byte.calls (a0 : Int) (r : Bool) (w : World) (h : spec_l05Byte.f a0 = some r) :
  Calls Tryz.prog 92 #[.int .u8 a0] w fun e w' => e = .returned (.bool r) ∧ Drawn0 w w':=by
 have H : (if a0 ≥ 97 then (if a0 ≤ 122 then (some true) else (if a0 ≥ 48 then (some (decide (a0 ≤ 57))) else (some false))) else (if a0 ≥ 48 then (some (decide (a0 ≤ 57))) else (some false))) = some r:=h
 clear h
 by_cases c2 : a0 ≥ 97
 rotate_left
 ·rw [if_neg c2] at H
  have c2b0 : decide (97 ≤ a0) = false:=decide_eq_false c2
  clear c2
  by_cases c5 : a0 ≥ 48
  ·rw [if_pos c5] at H
   have c5b0 : decide (48 ≤ a0) = true:=decide_eq_true c5
   clear c5
   obtain rfl:=zi_ H
   go_enter Tryz.func92,Tryz.ntmps92
   go_wp2
   go_ret
   exact zX_
  rw [if_neg c5] at H
  have c5b0 : decide (48 ≤ a0) = false:=decide_eq_false c5
  clear c5
  obtain rfl:=zi_ H
  go_enter Tryz.func92,Tryz.ntmps92
  go_wp2
  go_ret
  exact zX_


 rw [if_pos c2] at H
 have c2b0 : decide (97 ≤ a0) = true:=decide_eq_true c2
 clear c2
 by_cases c3 : a0 ≤ 122
 ·rw [if_pos c3] at H
  have c3b0:=decide_eq_true c3
  clear c3
  obtain rfl:=zi_ H
  go_enter Tryz.func92,Tryz.ntmps92
  go_wp2
  go_ret
  exact zX_
 rw [if_neg c3] at H
 have c3b0:=decide_eq_false c3
 clear c3
 by_cases c4 : a0 ≥ 48
 ·rw [if_pos c4] at H
  have c4b0 : decide (48 ≤ a0) = true:=decide_eq_true c4
  clear c4
  obtain rfl:=zi_ H
  go_enter Tryz.func92,Tryz.ntmps92
  go_wp2
  go_ret
  exact zX_
 rw [if_neg c4] at H
 have c4b0 : decide (48 ≤ a0) = false:=decide_eq_false c4
 clear c4
 obtain rfl:=zi_ H
 go_enter Tryz.func92,Tryz.ntmps92
 go_wp2
 go_ret
 exact zX_
mutual
def spec_l06Text.l0 : Nat → ByteArray → ByteArray → Int → Option (Bool)
 |0,_,_,_ => none
 |k + 1,x0,x3,x4 => if x4 < (x0.size : Int) then (if 0 ≤ x4 then ((spec_l05Byte.f (bt x0 x4)).bind fun t134 => (spec_l06Text.l1 k x0 x3 x4 t134 0)) else (none)) else ((spec_l01In.f (x0.size : Int) 1 8).bind fun t133 => (some t133))
def spec_l06Text.l1 : Nat → ByteArray → ByteArray → Int → Bool → Int → Option (Bool)
 |0,_,_,_,_,_ => none
 |k + 1,x0,x3,x4,x5,x6 => if x6 < (x3.size : Int) then (if x5 = true then (spec_l06Text.l1 k x0 x3 x4 true (wrap64 (x6 + 1))) else (if 0 ≤ x6 then (if 0 ≤ x4 then (if x4 < (x0.size : Int) then (spec_l06Text.l1 k x0 x3 x4 ((bt x3 x6) == (bt x0 x4)) (wrap64 (x6 + 1))) else (none)) else (none)) else (none))) else (if x5 = true then (spec_l06Text.l0 k x0 x3 (wrap64 (x4 + 1))) else (some false))
end
def spec_l06Text.f (k : Nat) (a0 : ByteArray) : Option (Bool):=spec_l06Text.l0 k a0 (⟨#[43,45,42,94,40,41,91,93,58,44,59,46,61,60,62]⟩ : ByteArray) 0
theorem spec_l06Text.calls (k : Nat) (a0 : ByteArray) (r : Bool) (w : World) (h : spec_l06Text.f k a0 = some r) :
  Calls Tryz.prog 65 #[.string a0] w fun e w' => e = .returned (.bool r) ∧ Drawn0 w w':=by
 have H : (spec_l06Text.l0 k a0 (⟨#[43,45,42,94,40,41,91,93,58,44,59,46,61,60,62]⟩ : ByteArray) 0) = some r:=h
 clear h
 have H':=zm_ H
 clear H
 go_enter Tryz.func65,Tryz.ntmps65
 go_wp2
 repeat (go_quiet (fail);try go_wp2)
 go_loopg [4] k (fun kq v4 w' => ∃ (x4_1 : Int),v4 = .int .i64 x4_1 ∧ Aside0 (spec_l06Text.l0 kq a0 (⟨#[43,45,42,94,40,41,91,93,58,44,59,46,61,60,62]⟩ : ByteArray) x4_1 = some r) ∧ Aside0 (kq ≤ k) ∧ Drawn0 w w')
 case atStart => exact ⟨(0),zV_,H',⟨Nat.le_refl _⟩,by repeat (first|exact Drawn0.refl _|apply Drawn0.step)⟩
 case round =>
  clear H'
  obtain ⟨x4_1,rfl,HA,HK1,⟨m1,rfl⟩⟩:=hrel
  cases gk with
  |zero => exact absurd HA.out (by simp [spec_l06Text.l0])
  |succ k1 =>
   have H:=HA.out
   clear HA
   simp only [spec_l06Text.l0] at H
   by_cases c2 : x4_1 < (a0.size : Int)
   rotate_left
   ·rw [if_neg c2] at H
    have c2b0:=decide_eq_false c2
    clear c2
    obtain ⟨t133,A14,H⟩:=zJ_ H
    try dsimp only at H
    obtain rfl:=zi_ H
    go_wp2_with (first|(go_at_call 16;(with_reducible refine (spec_l01In.calls (a0.size : Int) 1 8 t133 _ A14.out).mono ?_);rintro e w' ⟨rfl,⟨nd,rfl⟩⟩;(try exact zY_)))
    repeat (go_quiet (first|(go_at_call 16;(with_reducible refine (spec_l01In.calls (a0.size : Int) 1 8 t133 _ A14.out).mono ?_);rintro e w' ⟨rfl,⟨nd,rfl⟩⟩;(try exact zY_)));try go_wp2_with (first|(go_at_call 16;(with_reducible refine (spec_l01In.calls (a0.size : Int) 1 8 t133 _ A14.out).mono ?_);rintro e w' ⟨rfl,⟨nd,rfl⟩⟩;(try exact zY_))))
    go_ret
    exact zX_


   rw [if_pos c2] at H
   have c2b0:=decide_eq_true c2
   clear c2
   by_cases c3 : 0 ≤ x4_1
   rotate_left
   ·rw [if_neg c3] at H
    cases H
   rw [if_pos c3] at H
   have c3b0:=decide_eq_true c3
   clear c3
   obtain ⟨t134,A5,H⟩:=zJ_ H
   try dsimp only at H
   have H':=zm_ H
   clear H
   have p4 : 0 ≤ (x4_1 : Int):=zo_
   have q4 : x4_1 < (a0.size : Int):=zo_
   have hx4:=bt_at a0 x4_1
   replace p4:=eq_true p4
   replace q4:=eq_true q4
   go_wp2_with (first|(go_at_call 92;(with_reducible refine (spec_l05Byte.calls (bt a0 x4_1) t134 _ A5.out).mono ?_);rintro e w' ⟨rfl,⟨nd,rfl⟩⟩;(try exact zY_)))
   repeat (go_quiet (first|(go_at_call 92;(with_reducible refine (spec_l05Byte.calls (bt a0 x4_1) t134 _ A5.out).mono ?_);rintro e w' ⟨rfl,⟨nd,rfl⟩⟩;(try exact zY_)));try go_wp2_with (first|(go_at_call 92;(with_reducible refine (spec_l05Byte.calls (bt a0 x4_1) t134 _ A5.out).mono ?_);rintro e w' ⟨rfl,⟨nd,rfl⟩⟩;(try exact zY_))))
   go_loopg [5,6] k1 (fun kq v5 v6 w' => ∃ (x5_2 : Bool) (x6_2 : Int),v5 = .bool x5_2 ∧ v6 = .int .i64 x6_2 ∧ Aside0 (spec_l06Text.l1 kq a0 (⟨#[43,45,42,94,40,41,91,93,58,44,59,46,61,60,62]⟩ : ByteArray) x4_1 x5_2 x6_2 = some r) ∧ Aside0 (kq ≤ k1) ∧ Drawn0 w w')
   case atStart => exact ⟨(t134),(0),zV_,zV_,H',⟨Nat.le_refl _⟩,by repeat (first|exact Drawn0.refl _|apply Drawn0.step)⟩
   case round =>
    clear H'
    obtain ⟨x5_2,x6_2,rfl,rfl,HA,HK2,⟨m2,rfl⟩⟩:=hrel
    cases gk with
    |zero => exact absurd HA.out (by simp [spec_l06Text.l1])
    |succ k2 =>
     have H:=HA.out
     clear HA
     simp only [spec_l06Text.l1] at H
     by_cases c6 : x6_2 < ((⟨#[43,45,42,94,40,41,91,93,58,44,59,46,61,60,62]⟩ : ByteArray).size : Int)
     rotate_left
     ·rw [if_neg c6] at H
      have c6b0 : decide (x6_2 < 15) = false:=decide_eq_false c6
      clear c6
      by_cases c13 : x5_2 = true
      rotate_left
      ·replace c13:=Bool.eq_false_iff.mpr c13
       subst c13
       rw [zF_] at H
       obtain rfl:=zi_ H
       go_wp2
       repeat (go_quiet (fail);try go_wp2)
       go_ret
       exact zX_
      subst c13
      rw [if_pos rfl] at H
      have H':=zm_ H
      clear H
      go_wp2
      repeat (go_quiet (fail);try go_wp2)
      go_roundg k2
      case measure => have:=HK1.out;have:=HK2.out;omega
      case rel => exact ⟨(wrap64 (x4_1 + 1)),zV_,H',⟨by have:=HK1.out;have:=HK2.out;omega⟩,by repeat (first|exact Drawn0.refl _|apply Drawn0.step)⟩
     rw [if_pos c6] at H
     have c6b0 : decide (x6_2 < 15) = true:=decide_eq_true c6
     clear c6
     by_cases c7 : x5_2 = true
     ·subst c7
      rw [if_pos rfl] at H
      have H':=zm_ H
      clear H
      go_wp2
      repeat (go_quiet (fail);try go_wp2)
      go_roundg k2
      case measure => have:=HK1.out;have:=HK2.out;omega
      case rel => exact ⟨(true),(wrap64 (x6_2 + 1)),zV_,zV_,H',⟨by have:=HK1.out;have:=HK2.out;omega⟩,by repeat (first|exact Drawn0.refl _|apply Drawn0.step)⟩
     replace c7:=Bool.eq_false_iff.mpr c7
     subst c7
     rw [zF_] at H
     by_cases c8 : 0 ≤ x6_2
     rotate_left
     ·rw [if_neg c8] at H
      cases H
     rw [if_pos c8] at H
     have c8b0:=decide_eq_true c8
     clear c8
     by_cases c10 : 0 ≤ x4_1
     rotate_left
     ·rw [if_neg c10] at H
      cases H
     rw [if_pos c10] at H
     have c10b0:=decide_eq_true c10
     clear c10
     by_cases c11 : x4_1 < (a0.size : Int)
     rotate_left
     ·rw [if_neg c11] at H
      cases H
     rw [if_pos c11] at H
     have c11b0:=decide_eq_true c11
     clear c11
     have H':=zm_ H
     clear H
     have p9 : 0 ≤ (x6_2 : Int):=zo_
     have q9 : x6_2 < (15 : Int):=zo_
     have hx9:=bt_at (⟨#[43,45,42,94,40,41,91,93,58,44,59,46,61,60,62]⟩ : ByteArray) x6_2
     replace p9:=eq_true p9
     replace q9:=eq_true q9
     have p12 : 0 ≤ (x4_1 : Int):=zo_
     have q12 : x4_1 < (a0.size : Int):=zo_
     have hx12:=bt_at a0 x4_1
     replace p12:=eq_true p12
     replace q12:=eq_true q12
     go_wp2
     repeat (go_quiet (fail);try go_wp2)
     go_roundg k2
     case measure => have:=HK1.out;have:=HK2.out;omega
     case rel => exact ⟨(((bt (⟨#[43,45,42,94,40,41,91,93,58,44,59,46,61,60,62]⟩ : ByteArray) x6_2) == (bt a0 x4_1))),(wrap64 (x6_2 + 1)),zV_,zV_,H',⟨by have:=HK1.out;have:=HK2.out;omega⟩,by repeat (first|exact Drawn0.refl _|apply Drawn0.step)⟩
mutual
def spec_l05Rows.l0 : Nat → ByteArray → ByteArray → Int → Option (ByteArray × Bool)
 |0,_,_,_ => none
 |k + 1,x0,x4,x5 => if x5 < (x0.size : Int) then (if 0 ≤ x5 then ((spec_l05Byte.f (bt x0 x5)).bind fun t136 => (if t136 = true then (if (wrap64 (x5 + 2)) < (x0.size : Int) then (if 0 ≤ (wrap64 (x5 + 1)) then (if (wrap64 (x5 + 1)) < (x0.size : Int) then (spec_l05Rows.j1 k x0 x4 x5 (bt x0 x5) (wrap64 (x5 + 1)) ((bt x0 (wrap64 (x5 + 1))) == 45)) else (none)) else (none)) else (spec_l05Rows.j1 k x0 x4 x5 (bt x0 x5) (wrap64 (x5 + 1)) false)) else (some ((⟨#[]⟩ : ByteArray),false)))) else (none)) else ((spec_l01In.f (x0.size : Int) 1 12).bind fun t135 => (some (x4,t135)))
def spec_l05Rows.j1 : Nat → ByteArray → ByteArray → Int → Int → Int → Bool → Option (ByteArray × Bool)
 |0,_,_,_,_,_,_ => none
 |k + 1,x0,x4,x5,x6,x7,x33 => if x33 = true then (if 0 ≤ (wrap64 (x5 + 2)) then (if (wrap64 (x5 + 2)) < (x0.size : Int) then ((spec_l05Byte.f (bt x0 (wrap64 (x5 + 2)))).bind fun t137 => (if t137 = true then (if 0 ≤ x5 then (if x5 < (x0.size : Int) then (if (bt x0 (wrap64 (x5 + 2))) < (bt x0 x5) then (some ((⟨#[]⟩ : ByteArray),false)) else (if ((decide ((bt x0 (wrap64 (x5 + 2))) > 57)) != (decide ((bt x0 x5) > 57))) = true then (some ((⟨#[]⟩ : ByteArray),false)) else ((some (([bt x0 x5,bt x0 (wrap64 (x5 + 2))] : List Int) : List Int)).bind fun y138 => (if x4.size + (strOfNums y138).size ≤ 9223372036854775807 then (spec_l05Rows.l0 k x0 (x4 ++ (strOfNums y138)) (wrap64 (x5 + 3))) else (none))))) else (none)) else (none)) else (some ((⟨#[]⟩ : ByteArray),false)))) else (none)) else (none)) else (if 0 ≤ x5 then (if x5 < (x0.size : Int) then ((some (([bt x0 x5,x6] : List Int) : List Int)).bind fun y141 => (if x4.size + (strOfNums y141).size ≤ 9223372036854775807 then (spec_l05Rows.l0 k x0 (x4 ++ (strOfNums y141)) x7) else (none))) else (none)) else (none))
end
def spec_l05Rows.f (k : Nat) (a0 : ByteArray) : Option (ByteArray × Bool):=spec_l05Rows.l0 k a0 (⟨#[]⟩ : ByteArray) 0
theorem spec_l05Rows.calls (k : Nat) (a0 : ByteArray) (r1 : ByteArray) (r2 : Bool) (w : World) (h : spec_l05Rows.f k a0 = some (r1,r2)) :
  Calls Tryz.prog 93 #[.string a0] w fun e w' => e = .returned (.tuple #[.string r1,.bool r2]) ∧ Below w.heap.size w w':=by
 have HB:=zm_ (Below.refl w.heap.size w)
 have H : (spec_l05Rows.l0 k a0 (⟨#[]⟩ : ByteArray) 0) = some (r1,r2):=h
 clear h
 have H':=zm_ H
 clear H
 go_enter Tryz.func93,Tryz.ntmps93
 go_wp2
 go_loopg [4,5] k (fun kq v4 v5 w' => ∃ (x4_1 : ByteArray) (x5_1 : Int),v4 = .string x4_1 ∧ v5 = .int .i64 x5_1 ∧ Aside0 (spec_l05Rows.l0 kq a0 x4_1 x5_1 = some (r1,r2)) ∧ Aside0 (kq ≤ k) ∧ Aside0 (Below w.heap.size w w'))
 case atStart => exact ⟨((⟨#[]⟩ : ByteArray)),(0),zV_,zV_,H',⟨Nat.le_refl _⟩,⟨zG_⟩⟩
 case round =>
  clear H'
  obtain ⟨x4_1,x5_1,rfl,rfl,HA,HK1,HB⟩:=hrel
  cases gk with
  |zero => exact absurd HA.out (by simp [spec_l05Rows.l0])
  |succ k1 =>
   have H:=HA.out
   clear HA
   simp only [spec_l05Rows.l0] at H
   by_cases c2 : x5_1 < (a0.size : Int)
   rotate_left
   ·rw [if_neg c2] at H
    have c2b0:=decide_eq_false c2
    clear c2
    obtain ⟨t135,A39,H⟩:=zJ_ H
    try dsimp only at H
    simp only [Option.some.injEq,Prod.mk.injEq] at H
    obtain ⟨rfl,rfl⟩:=H
    go_wp2_with (first|((with_reducible refine gate_callee (f:=16) rfl ?_);refine goesL_ (some 71) rfl rfl Tryz.func16 (by kernel_rfl) rfl #[.int .i64 (a0.size : Int),.int .i64 1,.int .i64 12] rfl zq_ ?_;(with_reducible refine (spec_l01In.calls (a0.size : Int) 1 12 t135 _ A39.out).mono ?_);rintro e w' ⟨rfl,⟨nd,rfl⟩⟩;refine ⟨_,rfl,?_⟩))
    go_ret2
    exact ⟨zE_,zG_⟩


   rw [if_pos c2] at H
   have c2b0:=decide_eq_true c2
   clear c2
   by_cases c3 : 0 ≤ x5_1
   rotate_left
   ·rw [if_neg c3] at H
    cases H
   rw [if_pos c3] at H
   have c3b0:=decide_eq_true c3
   clear c3
   obtain ⟨t136,A5,H⟩:=zJ_ H
   try dsimp only at H
   by_cases c6 : t136 = true
   rotate_left
   ·replace c6:=Bool.eq_false_iff.mpr c6
    subst c6
    rw [zF_] at H
    simp only [Option.some.injEq,Prod.mk.injEq] at H
    obtain ⟨rfl,rfl⟩:=H
    have p4 : 0 ≤ (x5_1 : Int):=zo_
    have q4 : x5_1 < (a0.size : Int):=zo_
    have hx4:=bt_at a0 x5_1
    replace p4:=eq_true p4
    replace q4:=eq_true q4
    go_wp2_with (first|((with_reducible refine gate_callee (f:=92) rfl ?_);refine goesL_ (some 15) rfl rfl Tryz.func92 (by kernel_rfl) rfl #[.int .u8 (bt a0 x5_1)] rfl zq_ ?_;(with_reducible refine (spec_l05Byte.calls (bt a0 x5_1) false _ A5.out).mono ?_);rintro e w' ⟨rfl,⟨nd,rfl⟩⟩;refine ⟨_,rfl,?_⟩))
    go_ret2
    exact ⟨zE_,zG_⟩
   subst c6
   rw [if_pos rfl] at H
   have HC8:=zm_ H
   clear H
   have p4 : 0 ≤ (x5_1 : Int):=zo_
   have q4 : x5_1 < (a0.size : Int):=zo_
   have hx4:=bt_at a0 x5_1
   replace p4:=eq_true p4
   replace q4:=eq_true q4
   go_upto_region 8 with (first|((with_reducible refine gate_callee (f:=92) rfl ?_);refine goesL_ (some 15) rfl rfl Tryz.func92 (by kernel_rfl) rfl #[.int .u8 (bt a0 x5_1)] rfl zq_ ?_;(with_reducible refine (spec_l05Byte.calls (bt a0 x5_1) true _ A5.out).mono ?_);rintro e w' ⟨rfl,⟨nd,rfl⟩⟩;refine ⟨_,rfl,?_⟩;have p7 : 0 ≤ (x5_1 : Int):=zo_;have q7 : x5_1 < (a0.size : Int):=zo_;have hx7:=bt_at a0 x5_1;replace p7:=eq_true p7;replace q7:=eq_true q7))
   (try simp only [Act.put,List.setIfInBounds_toArray,List.set_cons_zero,List.set_cons_succ])
   go_cut [33] (fun v33 wc => ∃ (kq : Nat) (x33_7 : Bool),v33 = .bool x33_7 ∧ Aside0 (spec_l05Rows.j1 kq a0 x4_1 x5_1 (bt a0 x5_1) (wrap64 (x5_1 + 1)) x33_7 = some (r1,r2)) ∧ Aside0 (kq ≤ k1) ∧ Aside0 (Below w.heap.size w wc))
   case first =>
    have H:=HC8.out
    clear HC8
    by_cases c9 : (wrap64 (x5_1 + 2)) < (a0.size : Int)
    rotate_left
    ·rw [if_neg c9] at H
     have c9b0:=decide_eq_false c9
     clear c9
     (first|rw [c9b0]|(simp only [i64_w,i32_w];rw [c9b0])|skip)
     have H':=zm_ H
     clear H
     go_wp2
     go_meet
     case rel => exact ⟨_,(false),zV_,H',⟨by have:=HK1.out;first|omega|exact Nat.le_refl _⟩,⟨zG_⟩⟩
    rw [if_pos c9] at H
    have c9b0:=decide_eq_true c9
    clear c9
    (first|rw [c9b0]|(simp only [i64_w,i32_w];rw [c9b0])|skip)
    obtain ⟨ji10,hji10⟩ : ∃ j_ : Int,(wrap64 (x5_1 + 1)) = j_:=⟨_,rfl⟩
    replace H : (if 0 ≤ (ji10) then (if (ji10) < (a0.size : Int) then (spec_l05Rows.j1 k1 a0 x4_1 x5_1 (bt a0 x5_1) ji10 ((bt a0 (ji10)) == 45)) else (none)) else (none)) = some (r1,r2):=by first|(rw [hji10] at H;exact H)|(simp only [hji10] at H ⊢;exact H)
    have hji10w : (IntKind.i64.wrap (x5_1 + 1)) = ji10:=(i64_w _).trans hji10
    by_cases c11 : 0 ≤ (ji10)
    rotate_left
    ·rw [if_neg c11] at H
     cases H
    rw [if_pos c11] at H
    have c11b0:=decide_eq_true c11
    clear c11
    by_cases c12 : (ji10) < (a0.size : Int)
    rotate_left
    ·rw [if_neg c12] at H
     cases H
    rw [if_pos c12] at H
    have c12b0:=decide_eq_true c12
    clear c12
    have H':=zm_ H
    clear H
    have p13 : 0 ≤ ((ji10) : Int):=zo_
    have q13 : (ji10) < (a0.size : Int):=zo_
    have hx13:=bt_at a0 (ji10)
    replace p13:=eq_true p13
    replace q13:=eq_true q13
    go_wp2
    go_meet
    case rel => exact ⟨_,(((bt a0 (ji10)) == 45)),(by first|rfl|(exact congrArg Value.bool (isEmpty_ne _))|(exact congrArg Value.bool (isEmpty_ne' _))|(exact congrArg Value.bool (isEmpty_eq _))|(simp;done)|(simp only [← hji10] <;> (first|rfl|simp))|(simp [*];done)),(by first|exact H'|(rw [hji10];exact H')|(simp only [hji10];exact H')),⟨by have:=HK1.out;first|omega|exact Nat.le_refl _⟩,⟨zG_⟩⟩
   case rest =>
    clear HC8
    obtain ⟨kq,x33_7,rfl,HA,HJ7,HB⟩:=hcut
    cases kq with
    |zero => exact absurd HA.out (by simp [spec_l05Rows.j1])
    |succ kj7 =>
     have H:=HA.out
     clear HA
     simp only [spec_l05Rows.j1] at H
     by_cases c14 : x33_7 = true
     rotate_left
     ·replace c14:=Bool.eq_false_iff.mpr c14
      subst c14
      rw [zF_] at H
      by_cases c32 : 0 ≤ x5_1
      rotate_left
      ·rw [if_neg c32] at H
       cases H
      rw [if_pos c32] at H
      have c32b0:=decide_eq_true c32
      clear c32
      by_cases c33 : x5_1 < (a0.size : Int)
      rotate_left
      ·rw [if_neg c33] at H
       cases H
      rw [if_pos c33] at H
      have c33b0:=decide_eq_true c33
      clear c33
      obtain ⟨y141,hy141⟩ : ∃ y_ : List Int,y_ = (([bt a0 x5_1,(bt a0 x5_1)] : List Int)):=⟨_,rfl⟩
      replace H : (if x4_1.size + (strOfNums y141).size ≤ 9223372036854775807 then (spec_l05Rows.l0 kj7 a0 (x4_1 ++ (strOfNums y141)) (wrap64 (x5_1 + 1))) else (none)) = some (r1,r2):=by first|(rw [hy141];with_reducible exact H)|(have H2_:=(Option.bind_some _ _).symm.trans H;rw [hy141];with_reducible exact H2_)|(have H2_:=(Option.bind_some _ _).symm.trans H;with_reducible exact H2_)|with_reducible exact H|(rw [hy141];exact H)|exact H
      have Ny141:=zm_ hy141
      clear hy141
      by_cases c35 : x4_1.size + (strOfNums y141).size ≤ 9223372036854775807
      rotate_left
      ·rw [if_neg c35] at H
       cases H
      rw [if_pos c35] at H
      have c35b0:=eq_true c35
      have c35b1:=decide_eq_true c35
      try have c35b2 : (9223372036854775807 < x4_1.size + (strOfNums y141).size) = False:=eq_false (Nat.not_lt.2 c35)
      have H':=zm_ H
      clear H
      have p34 : 0 ≤ (x5_1 : Int):=zo_
      have q34 : x5_1 < (a0.size : Int):=zo_
      have hx34:=bt_at a0 x5_1
      replace p34:=eq_true p34
      replace q34:=eq_true q34
      go_wp2_with (first|((with_reducible refine gate_dst (N:=64) rfl ?_);refine Kd.R_lit (Kd.int .u8) _ 5 ?hg (N:=64) ?hd (xs:=([bt a0 x5_1,(bt a0 x5_1)] : List Int)) (inner:=[.int .u8 (bt a0 x5_1),.int .u8 (bt a0 x5_1)]) (ok:=fun _ => True) (okp:=fun _ => True) ?hr ?hp (fun _ hk => hk) trivial (Below.refl _ _) (Nat.le_refl _) (by simp) ?_;(case hd => rfl);(case hg => rfl);(case hr => first|(go_simp;done)|(go_simp;rfl));(case hp => exact (Reps.one (show Kd.M (Kd.int .u8) _ _ _ (bt a0 x5_1) [.int .u8 (bt a0 x5_1)] from rfl) (Reps.one (show Kd.M (Kd.int .u8) _ _ _ (bt a0 x5_1) [.int .u8 (bt a0 x5_1)] from rfl) (Reps.none _ _))));intro v142 w36 ho37 hb hg_ hnew_;clear hg_ hnew_;(first|rw [← Ny141.out] at ho37|(simp only [Int.reduceToNat] at ho37;rw [← Ny141.out] at ho37));have n0_:=zm_ (Kd.R_lower ho37 (below_size zB_));have n1_:=zm_ (below_step zB_ hb);clear HB;have HO143:=n0_;have HB:=n1_;clear n0_ n1_;clear hb ho37;have hcv38:=own_string (P:=Tryz.prog) Tryz.underlying137 Tryz.underlying5 Tryz.underlying9 (Kd.own_of_R HO143.out)))
      go_roundg kj7
      case measure => have:=HK1.out;have:=HJ7.out;omega
      case rel => exact ⟨(x4_1 ++ (strOfNums y141)),((wrap64 (x5_1 + 1))),zV_,zV_,H',⟨by have:=HK1.out;have:=HJ7.out;omega⟩,⟨zG_⟩⟩
     subst c14
     rw [if_pos rfl] at H
     obtain ⟨ji15,hji15⟩ : ∃ j_ : Int,(wrap64 (x5_1 + 2)) = j_:=⟨_,rfl⟩
     replace H : (if 0 ≤ (ji15) then (if (ji15) < (a0.size : Int) then ((spec_l05Byte.f (bt a0 (ji15))).bind fun t137 => (if t137 = true then (if 0 ≤ x5_1 then (if x5_1 < (a0.size : Int) then (if (bt a0 (ji15)) < (bt a0 x5_1) then (some ((⟨#[]⟩ : ByteArray),false)) else (if ((decide ((bt a0 (ji15)) > 57)) != (decide ((bt a0 x5_1) > 57))) = true then (some ((⟨#[]⟩ : ByteArray),false)) else ((some (([bt a0 x5_1,bt a0 (ji15)] : List Int) : List Int)).bind fun y138 => (if x4_1.size + (strOfNums y138).size ≤ 9223372036854775807 then (spec_l05Rows.l0 kj7 a0 (x4_1 ++ (strOfNums y138)) (wrap64 (x5_1 + 3))) else (none))))) else (none)) else (none)) else (some ((⟨#[]⟩ : ByteArray),false)))) else (none)) else (none)) = some (r1,r2):=by first|(rw [hji15] at H;exact H)|(simp only [hji15] at H ⊢;exact H)
     have hji15w : (IntKind.i64.wrap (x5_1 + 2)) = ji15:=(i64_w _).trans hji15
     by_cases c16 : 0 ≤ (ji15)
     rotate_left
     ·rw [if_neg c16] at H
      cases H
     rw [if_pos c16] at H
     have c16b0:=decide_eq_true c16
     clear c16
     by_cases c17 : (ji15) < (a0.size : Int)
     rotate_left
     ·rw [if_neg c17] at H
      cases H
     rw [if_pos c17] at H
     have c17b0:=decide_eq_true c17
     clear c17
     obtain ⟨t137,A19,H⟩:=zJ_ H
     try dsimp only at H
     by_cases c20 : t137 = true
     rotate_left
     ·replace c20:=Bool.eq_false_iff.mpr c20
      subst c20
      rw [zF_] at H
      simp only [Option.some.injEq,Prod.mk.injEq] at H
      obtain ⟨rfl,rfl⟩:=H
      have p18 : 0 ≤ ((ji15) : Int):=zo_
      have q18 : (ji15) < (a0.size : Int):=zo_
      have hx18:=bt_at a0 (ji15)
      replace p18:=eq_true p18
      replace q18:=eq_true q18
      go_wp2_with (first|((with_reducible refine gate_callee (f:=92) rfl ?_);refine goesL_ (some 41) rfl rfl Tryz.func92 (by kernel_rfl) rfl #[.int .u8 (bt a0 (ji15))] rfl zt4_1 ?_;(with_reducible refine (spec_l05Byte.calls (bt a0 (ji15)) false _ A19.out).mono ?_);rintro e w' ⟨rfl,⟨nd,rfl⟩⟩;refine ⟨_,rfl,?_⟩))
      go_ret2
      exact ⟨by first|rfl|(simp [errW_none,errW_some] <;> rfl)|(simp only [← hji15];first|rfl|(simp [errW_none,errW_some] <;> rfl))|(simp [*,errW_none,errW_some] <;> rfl),zG_⟩
     subst c20
     rw [if_pos rfl] at H
     by_cases c21 : 0 ≤ x5_1
     rotate_left
     ·rw [if_neg c21] at H
      cases H
     rw [if_pos c21] at H
     have c21b0:=decide_eq_true c21
     clear c21
     by_cases c22 : x5_1 < (a0.size : Int)
     rotate_left
     ·rw [if_neg c22] at H
      cases H
     rw [if_pos c22] at H
     have c22b0:=decide_eq_true c22
     clear c22
     by_cases c24 : (bt a0 (ji15)) < (bt a0 x5_1)
     ·rw [if_pos c24] at H
      have c24b0:=decide_eq_true c24
      clear c24
      simp only [Option.some.injEq,Prod.mk.injEq] at H
      obtain ⟨rfl,rfl⟩:=H
      have p18 : 0 ≤ ((ji15) : Int):=zo_
      have q18 : (ji15) < (a0.size : Int):=zo_
      have hx18:=bt_at a0 (ji15)
      replace p18:=eq_true p18
      replace q18:=eq_true q18
      go_wp2_with (first|((with_reducible refine gate_callee (f:=92) rfl ?_);refine goesL_ (some 41) rfl rfl Tryz.func92 (by kernel_rfl) rfl #[.int .u8 (bt a0 (ji15))] rfl zt4_1 ?_;(with_reducible refine (spec_l05Byte.calls (bt a0 (ji15)) true _ A19.out).mono ?_);rintro e w' ⟨rfl,⟨nd,rfl⟩⟩;refine ⟨_,rfl,?_⟩;have p23 : 0 ≤ (x5_1 : Int):=zo_;have q23 : x5_1 < (a0.size : Int):=zo_;have hx23:=bt_at a0 x5_1;replace p23:=eq_true p23;replace q23:=eq_true q23))
      go_ret2
      exact ⟨by first|rfl|(simp [errW_none,errW_some] <;> rfl)|(simp only [← hji15];first|rfl|(simp [errW_none,errW_some] <;> rfl))|(simp [*,errW_none,errW_some] <;> rfl),zG_⟩
     rw [if_neg c24] at H
     have c24b0:=decide_eq_false c24
     clear c24
     by_cases c26 : ((decide ((bt a0 (ji15)) > 57)) != (decide ((bt a0 x5_1) > 57))) = true
     ·rw [if_pos c26] at H
      have c26b0 : ((decide ((bt a0 (ji15)) > 57)) != (decide ((bt a0 x5_1) > 57))) = true:=c26
      (try (have c26b1 : decide ((decide ((bt a0 (ji15)) > 57)) = (decide ((bt a0 x5_1) > 57))) = false:=by simpa using c26))
      (try (have c26b2 : ((decide ((bt a0 (ji15)) > 57)) == (decide ((bt a0 x5_1) > 57))) = false:=by simpa using c26))
      (try (have c26b3 : ¬ ((decide ((bt a0 (ji15)) > 57)) = (decide ((bt a0 x5_1) > 57))):=by simpa using c26))
      clear c26
      simp only [Option.some.injEq,Prod.mk.injEq] at H
      obtain ⟨rfl,rfl⟩:=H
      have p18 : 0 ≤ ((ji15) : Int):=zo_
      have q18 : (ji15) < (a0.size : Int):=zo_
      have hx18:=bt_at a0 (ji15)
      replace p18:=eq_true p18
      replace q18:=eq_true q18
      go_wp2_with (first|((with_reducible refine gate_callee (f:=92) rfl ?_);refine goesL_ (some 41) rfl rfl Tryz.func92 (by kernel_rfl) rfl #[.int .u8 (bt a0 (ji15))] rfl zt4_1 ?_;(with_reducible refine (spec_l05Byte.calls (bt a0 (ji15)) true _ A19.out).mono ?_);rintro e w' ⟨rfl,⟨nd,rfl⟩⟩;refine ⟨_,rfl,?_⟩;have p23 : 0 ≤ (x5_1 : Int):=zo_;have q23 : x5_1 < (a0.size : Int):=zo_;have hx23:=bt_at a0 x5_1;replace p23:=eq_true p23;replace q23:=eq_true q23;have p25 : 0 ≤ (x5_1 : Int):=zo_;have q25 : x5_1 < (a0.size : Int):=zo_;have hx25:=bt_at a0 x5_1;replace p25:=eq_true p25;replace q25:=eq_true q25))
      go_ret2
      exact ⟨by first|rfl|(simp [errW_none,errW_some] <;> rfl)|(simp only [← hji15];first|rfl|(simp [errW_none,errW_some] <;> rfl))|(simp [*,errW_none,errW_some] <;> rfl),zG_⟩
     rw [if_neg c26] at H
     have c26b0 : ((decide ((bt a0 (ji15)) > 57)) != (decide ((bt a0 x5_1) > 57))) = false:=by simpa using c26
     (try (have c26b1 : decide ((decide ((bt a0 (ji15)) > 57)) = (decide ((bt a0 x5_1) > 57))) = true:=by simpa using c26))
     (try (have c26b2 : ((decide ((bt a0 (ji15)) > 57)) == (decide ((bt a0 x5_1) > 57))) = true:=by simpa using c26))
     clear c26
     obtain ⟨y138,hy138⟩ : ∃ y_ : List Int,y_ = (([bt a0 x5_1,bt a0 (ji15)] : List Int)):=⟨_,rfl⟩
     replace H : (if x4_1.size + (strOfNums y138).size ≤ 9223372036854775807 then (spec_l05Rows.l0 kj7 a0 (x4_1 ++ (strOfNums y138)) (wrap64 (x5_1 + 3))) else (none)) = some (r1,r2):=by first|(rw [hy138];with_reducible exact H)|(have H2_:=(Option.bind_some _ _).symm.trans H;rw [hy138];with_reducible exact H2_)|(have H2_:=(Option.bind_some _ _).symm.trans H;with_reducible exact H2_)|with_reducible exact H|(rw [hy138];exact H)|exact H
     have Ny138:=zm_ hy138
     clear hy138
     by_cases c28 : x4_1.size + (strOfNums y138).size ≤ 9223372036854775807
     rotate_left
     ·rw [if_neg c28] at H
      cases H
     rw [if_pos c28] at H
     have c28b0:=eq_true c28
     have c28b1:=decide_eq_true c28
     try have c28b2 : (9223372036854775807 < x4_1.size + (strOfNums y138).size) = False:=eq_false (Nat.not_lt.2 c28)
     have H':=zm_ H
     clear H
     have p18 : 0 ≤ ((ji15) : Int):=zo_
     have q18 : (ji15) < (a0.size : Int):=zo_
     have hx18:=bt_at a0 (ji15)
     replace p18:=eq_true p18
     replace q18:=eq_true q18
     go_wp2_with (first|((with_reducible refine gate_callee (f:=92) rfl ?_);refine goesL_ (some 41) rfl rfl Tryz.func92 (by kernel_rfl) rfl #[.int .u8 (bt a0 (ji15))] rfl zt4_1 ?_;(with_reducible refine (spec_l05Byte.calls (bt a0 (ji15)) true _ A19.out).mono ?_);rintro e w' ⟨rfl,⟨nd,rfl⟩⟩;refine ⟨_,rfl,?_⟩;have p23 : 0 ≤ (x5_1 : Int):=zo_;have q23 : x5_1 < (a0.size : Int):=zo_;have hx23:=bt_at a0 x5_1;replace p23:=eq_true p23;replace q23:=eq_true q23;have p25 : 0 ≤ (x5_1 : Int):=zo_;have q25 : x5_1 < (a0.size : Int):=zo_;have hx25:=bt_at a0 x5_1;replace p25:=eq_true p25;replace q25:=eq_true q25;have p27 : 0 ≤ (x5_1 : Int):=zo_;have q27 : x5_1 < (a0.size : Int):=zo_;have hx27:=bt_at a0 x5_1;replace p27:=eq_true p27;replace q27:=eq_true q27)|((with_reducible refine gate_dst (N:=64) rfl ?_);refine Kd.R_lit (Kd.int .u8) _ 5 ?hg (N:=64) ?hd (xs:=([bt a0 x5_1,bt a0 (ji15)] : List Int)) (inner:=[.int .u8 (bt a0 x5_1),.int .u8 (bt a0 (ji15))]) (ok:=fun _ => True) (okp:=fun _ => True) ?hr ?hp (fun _ hk => hk) trivial (Below.refl _ _) (Nat.le_refl _) (by simp) ?_;(case hd => rfl);(case hg => rfl);(case hr => first|(go_simp;done)|(go_simp;rfl));(case hp => exact (Reps.one (show Kd.M (Kd.int .u8) _ _ _ (bt a0 x5_1) [.int .u8 (bt a0 x5_1)] from rfl) (Reps.one (show Kd.M (Kd.int .u8) _ _ _ (bt a0 (ji15)) [.int .u8 (bt a0 (ji15))] from rfl) (Reps.none _ _))));intro v139 w29 ho30 hb hg_ hnew_;clear hg_ hnew_;(first|rw [← Ny138.out] at ho30|(simp only [Int.reduceToNat] at ho30;rw [← Ny138.out] at ho30));have n0_:=zm_ (Kd.R_lower ho30 (below_size zB_));have n1_:=zm_ (below_step zB_ hb);clear HB;have HO140:=n0_;have HB:=n1_;clear n0_ n1_;clear hb ho30;have hcv31:=own_string (P:=Tryz.prog) Tryz.underlying137 Tryz.underlying5 Tryz.underlying9 (Kd.own_of_R HO140.out)))
     go_roundg kj7
     case measure => have:=HK1.out;have:=HJ7.out;omega
     case rel => exact ⟨(x4_1 ++ (strOfNums y138)),(wrap64 (x5_1 + 3)),zV_,zV_,H',⟨by have:=HK1.out;have:=HJ7.out;omega⟩,⟨zG_⟩⟩
end Go.Proofs.YtkbgmojomgelbaaGreat.MFnExactGrammarOk
