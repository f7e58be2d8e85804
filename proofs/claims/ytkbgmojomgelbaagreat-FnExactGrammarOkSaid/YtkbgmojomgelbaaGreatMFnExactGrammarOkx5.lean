import Derived.Test.YtkbgmojomgelbaaGreatMFnExactGrammarOkx0
import Derived.Test.YtkbgmojomgelbaaGreatMFnExactGrammarOkx4
namespace Go.Proofs.YtkbgmojomgelbaaGreat.MFnExactGrammarOk
open Go.RowKit Go.Proofs.YtkbgmojomgelbaaGreatW.PrintWords Go.Proofs.YtkbgmojomgelbaaGreatW.PrintLast Go.Proofs.YtkbgmojomgelbaaGreatW.PrintMore
attribute [local go_sem] max2_int min2_int max_two min_two max_three min_three max_four min_four
set_option linter.unusedVariables false
set_option linter.unusedSimpArgs false
set_option maxHeartbeats 8000000
set_option maxRecDepth 100000

def spec_SetOk.f (k : Nat) (a0 : ByteArray) : Option (Bool):=(spec_l05Rows.f k a0).bind fun bt144 => (some bt144.2)
theorem spec_SetOk.calls (k : Nat) (a0 : ByteArray) (r : Bool) (w : World) (h : spec_SetOk.f k a0 = some r) :
  Calls Tryz.prog 66 #[.string a0] w fun e w' => e = .returned (.bool r) ∧ Below w.heap.size w w':=by
 have HB:=zm_ (Below.refl w.heap.size w)
 have H : ((spec_l05Rows.f k a0).bind fun bt144 => (some bt144.2)) = some r:=h
 clear h
 obtain ⟨⟨t144,t145⟩,A2,H⟩:=zJ_ H
 try dsimp only at H
 obtain rfl:=zi_ H
 go_enter Tryz.func66,Tryz.ntmps66
 go_wp2_with (first|((with_reducible refine gate_callee (f:=93) rfl ?_);refine goesL_ (some 7) rfl rfl Tryz.func93 (by kernel_rfl) rfl #[.string a0] rfl zq_ ?_;(with_reducible refine (spec_l05Rows.calls k a0 t144 t145 _ A2.out).mono ?_);rintro e w3 ⟨rfl,hb⟩;refine ⟨_,rfl,?_⟩;replace HB:=zm_ (below_step zB_ hb);(try clear hb)))
 go_ret
 exact ⟨zE_,zG_⟩

def spec_l03In.l0 : Nat → List ByteArray → ByteArray → Int → Option (Bool)
 |0,_,_,_ => none
 |k + 1,x0,x1,x5 => if x5 < (x0.length : Int) then (if 0 ≤ x5 then (if (rdOf ByteArray.empty x0 x5).toList = x1.toList then (some true) else (spec_l03In.l0 k x0 x1 (wrap64 (x5 + 1)))) else (none)) else (some false)
def spec_l03In.f (k : Nat) (l0 : List ByteArray) (a1 : ByteArray) : Option (Bool):=spec_l03In.l0 k l0 a1 0
theorem spec_l03In.calls (k : Nat) (A0 : Option Addr) (c0 : Nat) (l0 : List ByteArray) (a1 : ByteArray) (r : Bool) (w : World) (hr0 : Kd.C Kd.string w A0 l0.length l0) (hc0 : l0.length ≤ c0) (h : spec_l03In.f k l0 a1 = some r) :
  Calls Tryz.prog 69 #[.slice A0 l0.length c0,.string a1] w fun e w' => e = .returned (.bool r) ∧ Drawn0 w w':=by
 have HR0:=zm_ hr0
 have HC0:=zm_ hc0
 clear hr0 hc0
 have H : (spec_l03In.l0 k l0 a1 0) = some r:=h
 clear h
 have H':=zm_ H
 clear H
 go_enter Tryz.func69,Tryz.ntmps69
 go_wp2
 go_loopg [5] k (fun kq v5 w' => ∃ (x5_1 : Int),v5 = .int .i64 x5_1 ∧ Aside0 (spec_l03In.l0 kq l0 a1 x5_1 = some r) ∧ Aside0 (kq ≤ k) ∧ Drawn0 w w')
 case atStart => exact ⟨(0),zV_,H',⟨Nat.le_refl _⟩,by repeat (first|exact Drawn0.refl _|apply Drawn0.step)⟩
 case round =>
  clear H'
  obtain ⟨x5_1,rfl,HA,HK1,⟨m1,rfl⟩⟩:=hrel
  cases gk with
  |zero => exact absurd HA.out (by simp [spec_l03In.l0])
  |succ k1 =>
   have H:=HA.out
   clear HA
   simp only [spec_l03In.l0] at H
   by_cases c3 : x5_1 < (l0.length : Int)
   rotate_left
   ·rw [if_neg c3] at H
    have c3b0:=decide_eq_false c3
    clear c3
    obtain rfl:=zi_ H
    go_wp2
    go_ret
    exact zX_


   rw [if_pos c3] at H
   have c3b0:=decide_eq_true c3
   clear c3
   by_cases c4 : 0 ≤ x5_1
   rotate_left
   ·rw [if_neg c4] at H
    cases H
   rw [if_pos c4] at H
   have c4b0:=decide_eq_true c4
   clear c4
   by_cases c5 : (rdOf ByteArray.empty l0 x5_1).toList = a1.toList
   ·rw [if_pos c5] at H
    have c5b0 : ((rdOf ByteArray.empty l0 x5_1).toList == a1.toList) = true:=beq_iff_eq.mpr c5
    have c5b1 : ((rdOf ByteArray.empty l0 x5_1).toList != a1.toList) = false:=bne_eq_false_iff_eq.mpr c5
    clear c5
    obtain rfl:=zi_ H
    have p146 : 0 ≤ (x5_1 : Int):=zo_
    have q146 : x5_1 < (l0.length : Int):=zo_
    obtain ⟨ad146,e146,hx146_0⟩:=Kd.at_string HR0.out x5_1 p146 q146
    cases e146
    replace p146:=eq_true p146
    replace q146:=eq_true q146
    go_wp2
    go_ret
    exact zX_
   rw [if_neg c5] at H
   have c5b0 : ((rdOf ByteArray.empty l0 x5_1).toList == a1.toList) = false:=beq_eq_false_iff_ne.mpr c5
   have c5b1 : ((rdOf ByteArray.empty l0 x5_1).toList != a1.toList) = true:=bne_iff_ne.mpr c5
   have H':=zm_ H
   clear H
   have p146 : 0 ≤ (x5_1 : Int):=zo_
   have q146 : x5_1 < (l0.length : Int):=zo_
   obtain ⟨ad146,e146,hx146_0⟩:=Kd.at_string HR0.out x5_1 p146 q146
   cases e146
   replace p146:=eq_true p146
   replace q146:=eq_true q146
   go_wp2
   go_roundg k1
   case measure => have:=HK1.out;omega
   case rel => exact ⟨(wrap64 (x5_1 + 1)),zV_,H',⟨by have:=HK1.out;omega⟩,by repeat (first|exact Drawn0.refl _|apply Drawn0.step)⟩
def spec_l04Kids.j0 : Nat → Int → Bool → Option (Int)
 |0,_,_ => none
 |k + 1,x3,x4 => if x4 = true then (some 0) else (if x3 = 11 then (some 1) else (some 2))
def spec_l04Kids.f (k : Nat) (a0 : Int) : Option (Int):=if a0 = 1 then (spec_l04Kids.j0 k a0 (a0 == 1)) else (if a0 = 2 then (spec_l04Kids.j0 k a0 (a0 == 2)) else (spec_l04Kids.j0 k a0 (a0 == 3)))
theorem spec_l04Kids.calls (k : Nat) (a0 : Int) (r : Int) (w : World) (h : spec_l04Kids.f k a0 = some r) :
  Calls Tryz.prog 128 #[.int .i64 a0] w fun e w' => e = .returned (.int .i64 r) ∧ Drawn0 w w':=by
 have H : (if a0 = 1 then (spec_l04Kids.j0 k a0 (a0 == 1)) else (if a0 = 2 then (spec_l04Kids.j0 k a0 (a0 == 2)) else (spec_l04Kids.j0 k a0 (a0 == 3)))) = some r:=h
 clear h
 have HC2:=zm_ H
 clear H
 go_enter Tryz.func128,Tryz.ntmps128
 go_upto_if 4 with (fail)
 go_cut [4] (fun v4 wc => ∃ (kq : Nat) (x4_1 : Bool),v4 = .bool x4_1 ∧ Aside0 (spec_l04Kids.j0 kq a0 x4_1 = some r) ∧ Aside0 (kq ≤ k) ∧ Drawn0 w wc)
 case first =>
  have H:=HC2.out
  clear HC2
  by_cases c3 : a0 = 1
  ·rw [if_pos c3] at H
   have c3b0 : (a0 == 1) = true:=beq_iff_eq.mpr c3
   have c3b1 : (a0 != 1) = false:=bne_eq_false_iff_eq.mpr c3
   clear c3
   (first|rw [c3b0]|(simp only [i64_w,i32_w];rw [c3b0])|skip)
   have H':=zm_ H
   clear H
   go_wp2
   go_meet
   case rel => exact ⟨_,((a0 == 1)),zV_,H',⟨by first|omega|exact Nat.le_refl _⟩,by repeat (first|exact Drawn0.refl _|apply Drawn0.step)⟩
  rw [if_neg c3] at H
  have c3b0 : (a0 == 1) = false:=beq_eq_false_iff_ne.mpr c3
  have c3b1 : (a0 != 1) = true:=bne_iff_ne.mpr c3
  (first|rw [c3b0]|(simp only [i64_w,i32_w];rw [c3b0])|skip)
  by_cases c4 : a0 = 2
  rotate_left
  ·rw [if_neg c4] at H
   have c4b0 : (a0 == 2) = false:=beq_eq_false_iff_ne.mpr c4
   have c4b1 : (a0 != 2) = true:=bne_iff_ne.mpr c4
   have H':=zm_ H
   clear H
   go_wp2
   go_meet
   case rel => exact ⟨_,((a0 == 3)),zV_,H',⟨by first|omega|exact Nat.le_refl _⟩,by repeat (first|exact Drawn0.refl _|apply Drawn0.step)⟩
  rw [if_pos c4] at H
  have c4b0 : (a0 == 2) = true:=beq_iff_eq.mpr c4
  have c4b1 : (a0 != 2) = false:=bne_eq_false_iff_eq.mpr c4
  clear c4
  have H':=zm_ H
  clear H
  go_wp2
  go_meet
  case rel => exact ⟨_,((a0 == 2)),zV_,H',⟨by first|omega|exact Nat.le_refl _⟩,by repeat (first|exact Drawn0.refl _|apply Drawn0.step)⟩
 case rest =>
  clear HC2
  obtain ⟨kq,x4_1,rfl,HA,HJ1,⟨mc1,rfl⟩⟩:=hcut
  cases kq with
  |zero => exact absurd HA.out (by simp [spec_l04Kids.j0])
  |succ kj1 =>
   have H:=HA.out
   clear HA
   simp only [spec_l04Kids.j0] at H
   by_cases c5 : x4_1 = true
   ·subst c5
    rw [if_pos rfl] at H
    obtain rfl:=zi_ H
    go_wp2
    go_ret
    exact zX_
   replace c5:=Bool.eq_false_iff.mpr c5
   subst c5
   rw [zF_] at H
   by_cases c6 : a0 = 11
   rotate_left
   ·rw [if_neg c6] at H
    have c6b0 : (a0 == 11) = false:=beq_eq_false_iff_ne.mpr c6
    have c6b1 : (a0 != 11) = true:=bne_iff_ne.mpr c6
    obtain rfl:=zi_ H
    go_wp2
    go_ret
    exact zX_


   rw [if_pos c6] at H
   have c6b0 : (a0 == 11) = true:=beq_iff_eq.mpr c6
   have c6b1 : (a0 != 11) = false:=bne_eq_false_iff_eq.mpr c6
   clear c6
   obtain rfl:=zi_ H
   go_wp2
   go_ret
   exact zX_
end Go.Proofs.YtkbgmojomgelbaaGreat.MFnExactGrammarOk
