import Derived.Test.YtbkncnlehlldeaaMFnSetsMetx0
import Derived.Test.YtbkncnlehlldeaaMFnSetsMetx1
namespace Go.Proofs.Ytbkncnlehlldeaa.MFnSetsMet
open Go.RowKit Go.Proofs.YtbkncnlehlldeaaW.PrintWords Go.Proofs.YtbkncnlehlldeaaW.PrintLast Go.Proofs.YtbkncnlehlldeaaW.PrintMore
attribute [local go_sem] max2_int min2_int max_two min_two max_three min_three max_four min_four
set_option linter.unusedVariables false
set_option linter.unusedSimpArgs false

def spec_l05Byte.f (a0 : Int) : Option (Bool):=if a0 ≥ 97 then (if a0 ≤ 122 then (some true) else (if a0 ≥ 48 then (some (decide (a0 ≤ 57))) else (some false))) else (if a0 ≥ 48 then (some (decide (a0 ≤ 57))) else (some false))
set_option maxHeartbeats 8000000 in
set_option maxRecDepth 100000 in
theorem spec_l05Byte.calls (a0 : Int) (r : Bool) (w : World) (h : spec_l05Byte.f a0 = some r) :
  Calls Try.prog 35 #[.int .u8 a0] w fun e w' => e = .returned (.bool r) ∧ Drawn0 w w':=by
 have H : (if a0 ≥ 97 then (if a0 ≤ 122 then (some true) else (if a0 ≥ 48 then (some (decide (a0 ≤ 57))) else (some false))) else (if a0 ≥ 48 then (some (decide (a0 ≤ 57))) else (some false))) = some r:=h
 clear h
 by_cases c2 : a0 ≥ 97
 ·rw [if_pos c2] at H
  have c2b0 : decide (97 ≤ a0) = true:=decide_eq_true c2
  clear c2
  by_cases c3 : a0 ≤ 122
  ·rw [if_pos c3] at H
   have c3b0 : decide (a0 ≤ 122) = true:=decide_eq_true c3
   clear c3
   obtain rfl:=Option.some.inj H
   go_enter Try.func35,Try.ntmps35
   go_wp2
   go_ret
   exact ⟨by first|rfl|(simp;done)|(simp [*];done),by repeat (first|exact Drawn0.refl _|apply Drawn0.step)⟩
  ·rw [if_neg c3] at H
   have c3b0 : decide (a0 ≤ 122) = false:=decide_eq_false c3
   clear c3
   by_cases c4 : a0 ≥ 48
   ·rw [if_pos c4] at H
    have c4b0 : decide (48 ≤ a0) = true:=decide_eq_true c4
    clear c4
    obtain rfl:=Option.some.inj H
    go_enter Try.func35,Try.ntmps35
    go_wp2
    go_ret
    exact ⟨by first|rfl|(simp;done)|(simp [*];done),by repeat (first|exact Drawn0.refl _|apply Drawn0.step)⟩
   ·rw [if_neg c4] at H
    have c4b0 : decide (48 ≤ a0) = false:=decide_eq_false c4
    clear c4
    obtain rfl:=Option.some.inj H
    go_enter Try.func35,Try.ntmps35
    go_wp2
    go_ret
    exact ⟨by first|rfl|(simp;done)|(simp [*];done),by repeat (first|exact Drawn0.refl _|apply Drawn0.step)⟩
 ·rw [if_neg c2] at H
  have c2b0 : decide (97 ≤ a0) = false:=decide_eq_false c2
  clear c2
  by_cases c5 : a0 ≥ 48
  ·rw [if_pos c5] at H
   have c5b0 : decide (48 ≤ a0) = true:=decide_eq_true c5
   clear c5
   obtain rfl:=Option.some.inj H
   go_enter Try.func35,Try.ntmps35
   go_wp2
   go_ret
   exact ⟨by first|rfl|(simp;done)|(simp [*];done),by repeat (first|exact Drawn0.refl _|apply Drawn0.step)⟩
  ·rw [if_neg c5] at H
   have c5b0 : decide (48 ≤ a0) = false:=decide_eq_false c5
   clear c5
   obtain rfl:=Option.some.inj H
   go_enter Try.func35,Try.ntmps35
   go_wp2
   go_ret
   exact ⟨by first|rfl|(simp;done)|(simp [*];done),by repeat (first|exact Drawn0.refl _|apply Drawn0.step)⟩

def spec_l01In.f (a0 : Int) (a1 : Int) (a2 : Int) : Option (Bool):=if a0 ≥ a1 then (some (decide (a0 ≤ a2))) else (some false)
set_option maxHeartbeats 8000000 in
set_option maxRecDepth 100000 in
theorem spec_l01In.calls (a0 : Int) (a1 : Int) (a2 : Int) (r : Bool) (w : World) (h : spec_l01In.f a0 a1 a2 = some r) :
  Calls Try.prog 45 #[.int .i64 a0,.int .i64 a1,.int .i64 a2] w fun e w' => e = .returned (.bool r) ∧ Drawn0 w w':=by
 have H : (if a0 ≥ a1 then (some (decide (a0 ≤ a2))) else (some false)) = some r:=h
 clear h
 by_cases c4 : a0 ≥ a1
 ·rw [if_pos c4] at H
  have c4b0 : decide (a1 ≤ a0) = true:=decide_eq_true c4
  clear c4
  obtain rfl:=Option.some.inj H
  go_enter Try.func45,Try.ntmps45
  go_wp2
  go_ret
  exact ⟨by first|rfl|(simp;done)|(simp [*];done),by repeat (first|exact Drawn0.refl _|apply Drawn0.step)⟩
 ·rw [if_neg c4] at H
  have c4b0 : decide (a1 ≤ a0) = false:=decide_eq_false c4
  clear c4
  obtain rfl:=Option.some.inj H
  go_enter Try.func45,Try.ntmps45
  go_wp2
  go_ret
  exact ⟨by first|rfl|(simp;done)|(simp [*];done),by repeat (first|exact Drawn0.refl _|apply Drawn0.step)⟩

mutual
def spec_l05Rows.l0 : Nat → ByteArray → ByteArray → Int → Option (ByteArray × Bool)
 |0,_,_,_ => none
 |k + 1,x0,x4,x5 => if x5 < (x0.size : Int) then (if 0 ≤ x5 then ((spec_l05Byte.f (bt x0 x5)).bind fun t125 => (if t125 = true then (if (wrap64 (x5 + 2)) < (x0.size : Int) then (if 0 ≤ (wrap64 (x5 + 1)) then (if (wrap64 (x5 + 1)) < (x0.size : Int) then (spec_l05Rows.j1 k x0 x4 x5 (bt x0 x5) (wrap64 (x5 + 1)) ((bt x0 (wrap64 (x5 + 1))) == 45)) else (none)) else (none)) else (spec_l05Rows.j1 k x0 x4 x5 (bt x0 x5) (wrap64 (x5 + 1)) false)) else (some ((⟨#[]⟩ : ByteArray),false)))) else (none)) else ((spec_l01In.f (x0.size : Int) 1 12).bind fun t124 => (some (x4,t124)))
def spec_l05Rows.j1 : Nat → ByteArray → ByteArray → Int → Int → Int → Bool → Option (ByteArray × Bool)
 |0,_,_,_,_,_,_ => none
 |k + 1,x0,x4,x5,x6,x7,x33 => if x33 = true then (if 0 ≤ (wrap64 (x5 + 2)) then (if (wrap64 (x5 + 2)) < (x0.size : Int) then ((spec_l05Byte.f (bt x0 (wrap64 (x5 + 2)))).bind fun t126 => (if t126 = true then (if 0 ≤ x5 then (if x5 < (x0.size : Int) then (if (bt x0 (wrap64 (x5 + 2))) < (bt x0 x5) then (some ((⟨#[]⟩ : ByteArray),false)) else (if ((decide ((bt x0 (wrap64 (x5 + 2))) > 57)) != (decide ((bt x0 x5) > 57))) = true then (some ((⟨#[]⟩ : ByteArray),false)) else ((some (([bt x0 x5,bt x0 (wrap64 (x5 + 2))] : List Int) : List Int)).bind fun y127 => (if x4.size + (strOfNums y127).size ≤ 9223372036854775807 then (spec_l05Rows.l0 k x0 (x4 ++ (strOfNums y127)) (wrap64 (x5 + 3))) else (none))))) else (none)) else (none)) else (some ((⟨#[]⟩ : ByteArray),false)))) else (none)) else (none)) else (if 0 ≤ x5 then (if x5 < (x0.size : Int) then ((some (([bt x0 x5,x6] : List Int) : List Int)).bind fun y130 => (if x4.size + (strOfNums y130).size ≤ 9223372036854775807 then (spec_l05Rows.l0 k x0 (x4 ++ (strOfNums y130)) x7) else (none))) else (none)) else (none))
end
def spec_l05Rows.f (k : Nat) (a0 : ByteArray) : Option (ByteArray × Bool):=spec_l05Rows.l0 k a0 (⟨#[]⟩ : ByteArray) 0
theorem spec_l05Rows.mono_l : ∀ k,(∀ y0 y1 y2,LeO (spec_l05Rows.l0 k y0 y1 y2) (spec_l05Rows.l0 (k + 1) y0 y1 y2)) ∧ (∀ y0 y1 y2 y3 y4 y5,LeO (spec_l05Rows.j1 k y0 y1 y2 y3 y4 y5) (spec_l05Rows.j1 (k + 1) y0 y1 y2 y3 y4 y5))
 |0 => ⟨fun _ _ _ r h => by simp [spec_l05Rows.l0] at h,fun _ _ _ _ _ _ r h => by simp [spec_l05Rows.j1] at h⟩
 |k + 1 => by
  obtain ⟨ih0,ih1⟩:=spec_l05Rows.mono_l k
  refine ⟨?_,?_⟩
  ·intro y0 y1 y2
   unfold spec_l05Rows.l0
   repeat' first
   |(with_reducible exact ih0 _ _ _)
   |(with_reducible exact ih1 _ _ _ _ _ _)
   |(with_reducible exact LeO.refl _)
   |(with_reducible exact LeO.none _)
   |(with_reducible refine LeO.ite ?_ ?_)
   |(with_reducible refine LeO.bind ?_ (fun _ => ?_))
  ·intro y0 y1 y2 y3 y4 y5
   unfold spec_l05Rows.j1
   repeat' first
   |(with_reducible exact ih0 _ _ _)
   |(with_reducible exact ih1 _ _ _ _ _ _)
   |(with_reducible exact LeO.refl _)
   |(with_reducible exact LeO.none _)
   |(with_reducible refine LeO.ite ?_ ?_)
   |(with_reducible refine LeO.bind ?_ (fun _ => ?_))
theorem spec_l05Rows.mono : ∀ a0 k,LeO (spec_l05Rows.f k a0) (spec_l05Rows.f (k + 1) a0):=by
 intro a0 k
 obtain ⟨ih0,ih1⟩:=spec_l05Rows.mono_l k
 unfold spec_l05Rows.f
 repeat' first
   |(with_reducible exact ih0 _ _ _)
   |(with_reducible exact ih1 _ _ _ _ _ _)
   |(with_reducible exact LeO.refl _)
   |(with_reducible exact LeO.none _)
   |(with_reducible refine LeO.ite ?_ ?_)
   |(with_reducible refine LeO.bind ?_ (fun _ => ?_))
set_option maxHeartbeats 8000000 in
set_option maxRecDepth 100000 in
theorem spec_l05Rows.calls (k : Nat) (a0 : ByteArray) (r1 : ByteArray) (r2 : Bool) (w : World) (h : spec_l05Rows.f k a0 = some (r1,r2)) :
  Calls Try.prog 32 #[.string a0] w fun e w' => e = .returned (.tuple #[.string r1,.bool r2]) ∧ Below w.heap.size w w':=by
 have HB:=zm_ (Below.refl w.heap.size w)
 have H : (spec_l05Rows.l0 k a0 (⟨#[]⟩ : ByteArray) 0) = some (r1,r2):=h
 clear h
 have H':=zm_ H
 clear H
 go_enter Try.func32,Try.ntmps32
 go_wp2
 go_loopg [4,5] k (fun kq v4 v5 w' => ∃ (x4_1 : ByteArray) (x5_1 : Int),v4 = .string x4_1 ∧ v5 = .int .i64 x5_1 ∧ Aside0 (spec_l05Rows.l0 kq a0 x4_1 x5_1 = some (r1,r2)) ∧ Aside0 (kq ≤ k) ∧ Aside0 (Below w.heap.size w w'))
 case atStart => exact ⟨((⟨#[]⟩ : ByteArray)),(0),zV_,zV_,H',⟨Nat.le_refl _⟩,⟨by repeat (first|(with_reducible first|exact HB.out|apply za_|apply zn_|apply zd_)|exact HB.out)⟩⟩
 case round =>
  clear H'
  obtain ⟨x4_1,x5_1,rfl,rfl,HA,HK1,HB⟩:=hrel
  cases gk with
  |zero => exact absurd HA.out (by simp [spec_l05Rows.l0])
  |succ k1 =>
   have H:=HA.out
   clear HA
   simp only [spec_l05Rows.l0] at H
   by_cases c2 : x5_1 < (a0.size : Int)
   ·rw [if_pos c2] at H
    have c2b0 : decide (x5_1 < (a0.size : Int)) = true:=decide_eq_true c2
    clear c2
    by_cases c3 : 0 ≤ x5_1
    ·rw [if_pos c3] at H
     have c3b0 : decide (0 ≤ x5_1) = true:=decide_eq_true c3
     clear c3
     replace H:=Option.bind_eq_some_iff.mp H
     obtain ⟨t125,A50,H⟩:=H
     replace H : (if t125 = true then (if (wrap64 (x5_1 + 2)) < (a0.size : Int) then (if 0 ≤ (wrap64 (x5_1 + 1)) then (if (wrap64 (x5_1 + 1)) < (a0.size : Int) then (spec_l05Rows.j1 k1 a0 x4_1 x5_1 (bt a0 x5_1) (wrap64 (x5_1 + 1)) ((bt a0 (wrap64 (x5_1 + 1))) == 45)) else (none)) else (none)) else (spec_l05Rows.j1 k1 a0 x4_1 x5_1 (bt a0 x5_1) (wrap64 (x5_1 + 1)) false)) else (some ((⟨#[]⟩ : ByteArray),false))) = some (r1,r2):=H
     have A5:=zm_ A50
     clear A50
     by_cases c6 : t125 = true
     ·subst c6
      have H1 : (if (wrap64 (x5_1 + 2)) < (a0.size : Int) then (if 0 ≤ (wrap64 (x5_1 + 1)) then (if (wrap64 (x5_1 + 1)) < (a0.size : Int) then (spec_l05Rows.j1 k1 a0 x4_1 x5_1 (bt a0 x5_1) (wrap64 (x5_1 + 1)) ((bt a0 (wrap64 (x5_1 + 1))) == 45)) else (none)) else (none)) else (spec_l05Rows.j1 k1 a0 x4_1 x5_1 (bt a0 x5_1) (wrap64 (x5_1 + 1)) false)) = some (r1,r2):=by rw [if_pos rfl] at H;exact H
      clear H
      have H:=H1
      clear H1
      have HC8:=zm_ H
      clear H
      have p4 : 0 ≤ (x5_1 : Int):=zo_
      have q4 : x5_1 < (a0.size : Int):=zo_
      have hx4:=bt_at a0 x5_1
      replace p4:=eq_true p4
      replace q4:=eq_true q4
      go_upto_region 8 with (first|((with_reducible refine gate_callee (f:=35) rfl ?_);refine goesL_ (some 15) rfl rfl Try.func35 (by kernel_rfl) rfl #[.int .u8 (bt a0 x5_1)] rfl zq_ ?_;(with_reducible refine (spec_l05Byte.calls (bt a0 x5_1) true _ A5.out).mono ?_);rintro e w' ⟨rfl,⟨nd,rfl⟩⟩;refine ⟨_,rfl,?_⟩;have p7 : 0 ≤ (x5_1 : Int):=zo_;have q7 : x5_1 < (a0.size : Int):=zo_;have hx7:=bt_at a0 x5_1;replace p7:=eq_true p7;replace q7:=eq_true q7))
      (try simp only [Act.put,List.setIfInBounds_toArray,List.set_cons_zero,List.set_cons_succ])
      go_cut [33] (fun v33 wc => ∃ (kq : Nat) (x33_7 : Bool),v33 = .bool x33_7 ∧ Aside0 (spec_l05Rows.j1 kq a0 x4_1 x5_1 (bt a0 x5_1) (wrap64 (x5_1 + 1)) x33_7 = some (r1,r2)) ∧ Aside0 (kq ≤ k1) ∧ Aside0 (Below w.heap.size w wc))
      case first =>
       have H:=HC8.out
       clear HC8
       by_cases c9 : (wrap64 (x5_1 + 2)) < (a0.size : Int)
       ·rw [if_pos c9] at H
        have c9b0 : decide ((wrap64 (x5_1 + 2)) < (a0.size : Int)) = true:=decide_eq_true c9
        clear c9
        (first|rw [c9b0]|(simp only [i64_w,i32_w];rw [c9b0])|skip)
        obtain ⟨ji10,hji10⟩ : ∃ j_ : Int,(wrap64 (x5_1 + 1)) = j_:=⟨_,rfl⟩
        replace H : (if 0 ≤ (ji10) then (if (ji10) < (a0.size : Int) then (spec_l05Rows.j1 k1 a0 x4_1 x5_1 (bt a0 x5_1) ji10 ((bt a0 (ji10)) == 45)) else (none)) else (none)) = some (r1,r2):=by first|(rw [hji10] at H;exact H)|(simp only [hji10] at H ⊢;exact H)
        have hji10w : (IntKind.i64.wrap (x5_1 + 1)) = ji10:=(i64_w _).trans hji10
        by_cases c11 : 0 ≤ (ji10)
        ·rw [if_pos c11] at H
         have c11b0 : decide (0 ≤ (ji10)) = true:=decide_eq_true c11
         clear c11
         by_cases c12 : (ji10) < (a0.size : Int)
         ·rw [if_pos c12] at H
          have c12b0 : decide ((ji10) < (a0.size : Int)) = true:=decide_eq_true c12
          clear c12
          have H':=zm_ H
          clear H
          have p13 : 0 ≤ ((ji10) : Int):=zo_
          have q13 : (ji10) < (a0.size : Int):=zo_
          have hx13:=bt_at a0 (ji10)
          replace p13:=eq_true p13
          replace q13:=eq_true q13
          go_wp2
          go_meet
          case rel => exact ⟨_,(((bt a0 (ji10)) == 45)),(by first|rfl|(exact congrArg Value.bool (isEmpty_ne _))|(exact congrArg Value.bool (isEmpty_ne' _))|(exact congrArg Value.bool (isEmpty_eq _))|(simp;done)|(simp only [← hji10] <;> (first|rfl|simp))|(simp [*];done)),(by first|exact H'|(rw [hji10];exact H')|(simp only [hji10];exact H')),⟨by have:=HK1.out;first|omega|exact Nat.le_refl _⟩,⟨by repeat (first|(with_reducible first|exact HB.out|apply za_|apply zn_|apply zd_)|exact HB.out)⟩⟩
         ·rw [if_neg c12] at H
          exact absurd H (by simp)
        ·rw [if_neg c11] at H
         exact absurd H (by simp)
       ·rw [if_neg c9] at H
        have c9b0 : decide ((wrap64 (x5_1 + 2)) < (a0.size : Int)) = false:=decide_eq_false c9
        clear c9
        (first|rw [c9b0]|(simp only [i64_w,i32_w];rw [c9b0])|skip)
        have H':=zm_ H
        clear H
        go_wp2
        go_meet
        case rel => exact ⟨_,(false),zV_,H',⟨by have:=HK1.out;first|omega|exact Nat.le_refl _⟩,⟨by repeat (first|(with_reducible first|exact HB.out|apply za_|apply zn_|apply zd_)|exact HB.out)⟩⟩
      case rest =>
       clear HC8
       try clear c1
       try clear p1
       try clear q1
       try clear hx1
       try clear c2
       try clear c2b0
       try clear p2
       try clear c3
       try clear c3b0
       try clear p4
       try clear q4
       try clear hx4
       try clear c6
       try clear p6
       try clear p7
       try clear q7
       try clear hx7
       try clear c9
       try clear c9b0
       try clear c11
       try clear c11b0
       try clear c12
       try clear c12b0
       try clear p13
       try clear q13
       try clear hx13
       try clear p13
       try clear p4
       try clear p7
       try clear q13
       try clear q4
       try clear q7
       obtain ⟨kq,x33_7,rfl,HA,HJ7,HB⟩:=hcut
       cases kq with
       |zero => exact absurd HA.out (by simp [spec_l05Rows.j1])
       |succ kj7 =>
        have H:=HA.out
        clear HA
        simp only [spec_l05Rows.j1] at H
        by_cases c14 : x33_7 = true
        ·subst c14
         have H1 : (if 0 ≤ (wrap64 (x5_1 + 2)) then (if (wrap64 (x5_1 + 2)) < (a0.size : Int) then ((spec_l05Byte.f (bt a0 (wrap64 (x5_1 + 2)))).bind fun t126 => (if t126 = true then (if 0 ≤ x5_1 then (if x5_1 < (a0.size : Int) then (if (bt a0 (wrap64 (x5_1 + 2))) < (bt a0 x5_1) then (some ((⟨#[]⟩ : ByteArray),false)) else (if ((decide ((bt a0 (wrap64 (x5_1 + 2))) > 57)) != (decide ((bt a0 x5_1) > 57))) = true then (some ((⟨#[]⟩ : ByteArray),false)) else ((some (([bt a0 x5_1,bt a0 (wrap64 (x5_1 + 2))] : List Int) : List Int)).bind fun y127 => (if x4_1.size + (strOfNums y127).size ≤ 9223372036854775807 then (spec_l05Rows.l0 kj7 a0 (x4_1 ++ (strOfNums y127)) (wrap64 (x5_1 + 3))) else (none))))) else (none)) else (none)) else (some ((⟨#[]⟩ : ByteArray),false)))) else (none)) else (none)) = some (r1,r2):=by rw [if_pos rfl] at H;exact H
         clear H
         have H:=H1
         clear H1
         obtain ⟨ji15,hji15⟩ : ∃ j_ : Int,(wrap64 (x5_1 + 2)) = j_:=⟨_,rfl⟩
         replace H : (if 0 ≤ (ji15) then (if (ji15) < (a0.size : Int) then ((spec_l05Byte.f (bt a0 (ji15))).bind fun t126 => (if t126 = true then (if 0 ≤ x5_1 then (if x5_1 < (a0.size : Int) then (if (bt a0 (ji15)) < (bt a0 x5_1) then (some ((⟨#[]⟩ : ByteArray),false)) else (if ((decide ((bt a0 (ji15)) > 57)) != (decide ((bt a0 x5_1) > 57))) = true then (some ((⟨#[]⟩ : ByteArray),false)) else ((some (([bt a0 x5_1,bt a0 (ji15)] : List Int) : List Int)).bind fun y127 => (if x4_1.size + (strOfNums y127).size ≤ 9223372036854775807 then (spec_l05Rows.l0 kj7 a0 (x4_1 ++ (strOfNums y127)) (wrap64 (x5_1 + 3))) else (none))))) else (none)) else (none)) else (some ((⟨#[]⟩ : ByteArray),false)))) else (none)) else (none)) = some (r1,r2):=by first|(rw [hji15] at H;exact H)|(simp only [hji15] at H ⊢;exact H)
         have hji15w : (IntKind.i64.wrap (x5_1 + 2)) = ji15:=(i64_w _).trans hji15
         by_cases c16 : 0 ≤ (ji15)
         ·rw [if_pos c16] at H
          have c16b0 : decide (0 ≤ (ji15)) = true:=decide_eq_true c16
          clear c16
          by_cases c17 : (ji15) < (a0.size : Int)
          ·rw [if_pos c17] at H
           have c17b0 : decide ((ji15) < (a0.size : Int)) = true:=decide_eq_true c17
           clear c17
           replace H:=Option.bind_eq_some_iff.mp H
           obtain ⟨t126,A190,H⟩:=H
           replace H : (if t126 = true then (if 0 ≤ x5_1 then (if x5_1 < (a0.size : Int) then (if (bt a0 (ji15)) < (bt a0 x5_1) then (some ((⟨#[]⟩ : ByteArray),false)) else (if ((decide ((bt a0 (ji15)) > 57)) != (decide ((bt a0 x5_1) > 57))) = true then (some ((⟨#[]⟩ : ByteArray),false)) else ((some (([bt a0 x5_1,bt a0 (ji15)] : List Int) : List Int)).bind fun y127 => (if x4_1.size + (strOfNums y127).size ≤ 9223372036854775807 then (spec_l05Rows.l0 kj7 a0 (x4_1 ++ (strOfNums y127)) (wrap64 (x5_1 + 3))) else (none))))) else (none)) else (none)) else (some ((⟨#[]⟩ : ByteArray),false))) = some (r1,r2):=H
           have A19:=zm_ A190
           clear A190
           by_cases c20 : t126 = true
           ·subst c20
            have H1 : (if 0 ≤ x5_1 then (if x5_1 < (a0.size : Int) then (if (bt a0 (ji15)) < (bt a0 x5_1) then (some ((⟨#[]⟩ : ByteArray),false)) else (if ((decide ((bt a0 (ji15)) > 57)) != (decide ((bt a0 x5_1) > 57))) = true then (some ((⟨#[]⟩ : ByteArray),false)) else ((some (([bt a0 x5_1,bt a0 (ji15)] : List Int) : List Int)).bind fun y127 => (if x4_1.size + (strOfNums y127).size ≤ 9223372036854775807 then (spec_l05Rows.l0 kj7 a0 (x4_1 ++ (strOfNums y127)) (wrap64 (x5_1 + 3))) else (none))))) else (none)) else (none)) = some (r1,r2):=by rw [if_pos rfl] at H;exact H
            clear H
            have H:=H1
            clear H1
            by_cases c21 : 0 ≤ x5_1
            ·rw [if_pos c21] at H
             have c21b0 : decide (0 ≤ x5_1) = true:=decide_eq_true c21
             clear c21
             by_cases c22 : x5_1 < (a0.size : Int)
             ·rw [if_pos c22] at H
              have c22b0 : decide (x5_1 < (a0.size : Int)) = true:=decide_eq_true c22
              clear c22
              by_cases c24 : (bt a0 (ji15)) < (bt a0 x5_1)
              ·rw [if_pos c24] at H
               have c24b0 : decide ((bt a0 (ji15)) < (bt a0 x5_1)) = true:=decide_eq_true c24
               clear c24
               simp only [Option.some.injEq,Prod.mk.injEq] at H
               obtain ⟨rfl,rfl⟩:=H
               have p18 : 0 ≤ ((ji15) : Int):=zo_
               have q18 : (ji15) < (a0.size : Int):=zo_
               have hx18:=bt_at a0 (ji15)
               replace p18:=eq_true p18
               replace q18:=eq_true q18
               go_wp2_with (first|((with_reducible refine gate_callee (f:=35) rfl ?_);refine goesL_ (some 41) rfl rfl Try.func35 (by kernel_rfl) rfl #[.int .u8 (bt a0 (ji15))] rfl (by (try simp only [List.map_toArray,List.map_cons,List.map_nil]);first|done|(simp only [hji15];rfl)|rfl|(simp only [List.length_drop,List.length_take];rfl)) ?_;(with_reducible refine (spec_l05Byte.calls (bt a0 (ji15)) true _ A19.out).mono ?_);rintro e w' ⟨rfl,⟨nd,rfl⟩⟩;refine ⟨_,rfl,?_⟩;have p23 : 0 ≤ (x5_1 : Int):=zo_;have q23 : x5_1 < (a0.size : Int):=zo_;have hx23:=bt_at a0 x5_1;replace p23:=eq_true p23;replace q23:=eq_true q23))
               go_ret2
               exact ⟨by first|rfl|(simp [errW_none,errW_some] <;> rfl)|(simp only [← hji15];first|rfl|(simp [errW_none,errW_some] <;> rfl))|(simp [*,errW_none,errW_some] <;> rfl),by repeat (first|(with_reducible first|exact HB.out|apply za_|apply zn_|apply zd_)|exact HB.out)⟩
              ·rw [if_neg c24] at H
               have c24b0 : decide ((bt a0 (ji15)) < (bt a0 x5_1)) = false:=decide_eq_false c24
               clear c24
               by_cases c26 : ((decide ((bt a0 (ji15)) > 57)) != (decide ((bt a0 x5_1) > 57))) = true
               ·rw [if_pos c26] at H
                have c26b0 : ((decide ((bt a0 (ji15)) > 57)) != (decide ((bt a0 x5_1) > 57))) = true:=c26
                (try (have c26b1 : decide ((decide ((bt a0 (ji15)) > 57)) = (decide ((bt a0 x5_1) > 57))) = false:=by simpa using c26))
                (try (have c26b2 : ((decide ((bt a0 (ji15)) > 57)) == (decide ((bt a0 x5_1) > 57))) = false:=by simpa using c26))
                (try (have c26b3 : ¬ ((decide ((bt a0 (ji15)) > 57)) = (decide ((bt a0 x5_1) > 57))):=by simpa using c26))
                clear c26
                simp only [Option.some.injEq,Prod.mk.injEq] at H
                obtain ⟨rfl,rfl⟩:=H
                have p18 : 0 ≤ ((ji15) : Int):=zo_
                have q18 : (ji15) < (a0.size : Int):=zo_
                have hx18:=bt_at a0 (ji15)
                replace p18:=eq_true p18
                replace q18:=eq_true q18
                go_wp2_with (first|((with_reducible refine gate_callee (f:=35) rfl ?_);refine goesL_ (some 41) rfl rfl Try.func35 (by kernel_rfl) rfl #[.int .u8 (bt a0 (ji15))] rfl (by (try simp only [List.map_toArray,List.map_cons,List.map_nil]);first|done|(simp only [hji15];rfl)|rfl|(simp only [List.length_drop,List.length_take];rfl)) ?_;(with_reducible refine (spec_l05Byte.calls (bt a0 (ji15)) true _ A19.out).mono ?_);rintro e w' ⟨rfl,⟨nd,rfl⟩⟩;refine ⟨_,rfl,?_⟩;have p23 : 0 ≤ (x5_1 : Int):=zo_;have q23 : x5_1 < (a0.size : Int):=zo_;have hx23:=bt_at a0 x5_1;replace p23:=eq_true p23;replace q23:=eq_true q23;have p25 : 0 ≤ (x5_1 : Int):=zo_;have q25 : x5_1 < (a0.size : Int):=zo_;have hx25:=bt_at a0 x5_1;replace p25:=eq_true p25;replace q25:=eq_true q25))
                go_ret2
                exact ⟨by first|rfl|(simp [errW_none,errW_some] <;> rfl)|(simp only [← hji15];first|rfl|(simp [errW_none,errW_some] <;> rfl))|(simp [*,errW_none,errW_some] <;> rfl),by repeat (first|(with_reducible first|exact HB.out|apply za_|apply zn_|apply zd_)|exact HB.out)⟩
               ·rw [if_neg c26] at H
                have c26b0 : ((decide ((bt a0 (ji15)) > 57)) != (decide ((bt a0 x5_1) > 57))) = false:=by simpa using c26
                (try (have c26b1 : decide ((decide ((bt a0 (ji15)) > 57)) = (decide ((bt a0 x5_1) > 57))) = true:=by simpa using c26))
                (try (have c26b2 : ((decide ((bt a0 (ji15)) > 57)) == (decide ((bt a0 x5_1) > 57))) = true:=by simpa using c26))
                clear c26
                obtain ⟨y127,hy127⟩ : ∃ y_ : List Int,y_ = (([bt a0 x5_1,bt a0 (ji15)] : List Int)):=⟨_,rfl⟩
                replace H : (if x4_1.size + (strOfNums y127).size ≤ 9223372036854775807 then (spec_l05Rows.l0 kj7 a0 (x4_1 ++ (strOfNums y127)) (wrap64 (x5_1 + 3))) else (none)) = some (r1,r2):=by first|(rw [hy127];with_reducible exact H)|(have H2_:=(Option.bind_some _ _).symm.trans H;rw [hy127];with_reducible exact H2_)|(have H2_:=(Option.bind_some _ _).symm.trans H;with_reducible exact H2_)|with_reducible exact H|(rw [hy127];exact H)|exact H
                have Ny127:=zm_ hy127
                clear hy127
                by_cases c28 : x4_1.size + (strOfNums y127).size ≤ 9223372036854775807
                ·rw [if_pos c28] at H
                 have c28b0:=eq_true c28
                 have c28b1 : decide (x4_1.size + (strOfNums y127).size ≤ 9223372036854775807) = true:=decide_eq_true c28
                 try have c28b2 : (9223372036854775807 < x4_1.size + (strOfNums y127).size) = False:=eq_false (Nat.not_lt.2 c28)
                 have H':=zm_ H
                 clear H
                 have p18 : 0 ≤ ((ji15) : Int):=zo_
                 have q18 : (ji15) < (a0.size : Int):=zo_
                 have hx18:=bt_at a0 (ji15)
                 replace p18:=eq_true p18
                 replace q18:=eq_true q18
                 go_wp2_with (first|((with_reducible refine gate_callee (f:=35) rfl ?_);refine goesL_ (some 41) rfl rfl Try.func35 (by kernel_rfl) rfl #[.int .u8 (bt a0 (ji15))] rfl (by (try simp only [List.map_toArray,List.map_cons,List.map_nil]);first|done|(simp only [hji15];rfl)|rfl|(simp only [List.length_drop,List.length_take];rfl)) ?_;(with_reducible refine (spec_l05Byte.calls (bt a0 (ji15)) true _ A19.out).mono ?_);rintro e w' ⟨rfl,⟨nd,rfl⟩⟩;refine ⟨_,rfl,?_⟩;have p23 : 0 ≤ (x5_1 : Int):=zo_;have q23 : x5_1 < (a0.size : Int):=zo_;have hx23:=bt_at a0 x5_1;replace p23:=eq_true p23;replace q23:=eq_true q23;have p25 : 0 ≤ (x5_1 : Int):=zo_;have q25 : x5_1 < (a0.size : Int):=zo_;have hx25:=bt_at a0 x5_1;replace p25:=eq_true p25;replace q25:=eq_true q25;have p27 : 0 ≤ (x5_1 : Int):=zo_;have q27 : x5_1 < (a0.size : Int):=zo_;have hx27:=bt_at a0 x5_1;replace p27:=eq_true p27;replace q27:=eq_true q27)|((with_reducible refine gate_dst (N:=64) rfl ?_);refine Kd.R_lit (Kd.int .u8) _ 5 ?hg (N:=64) ?hd (xs:=([bt a0 x5_1,bt a0 (ji15)] : List Int)) (inner:=[.int .u8 (bt a0 x5_1),.int .u8 (bt a0 (ji15))]) (ok:=fun _ => True) (okp:=fun _ => True) ?hr ?hp (fun _ hk => hk) trivial (Below.refl _ _) (Nat.le_refl _) (by simp) ?_;(case hd => rfl);(case hg => rfl);(case hr => first|(go_simp;done)|(go_simp;rfl));(case hp => exact (Reps.one (show Kd.M (Kd.int .u8) _ _ _ (bt a0 x5_1) [.int .u8 (bt a0 x5_1)] from rfl) (Reps.one (show Kd.M (Kd.int .u8) _ _ _ (bt a0 (ji15)) [.int .u8 (bt a0 (ji15))] from rfl) (Reps.none _ _))));intro v128 w29 ho30 hb hg_ hnew_;clear hg_ hnew_;(first|rw [← Ny127.out] at ho30|(simp only [Int.reduceToNat] at ho30;rw [← Ny127.out] at ho30));have n0_:=zm_ (Kd.R_lower ho30 (below_size zB_));have n1_:=zm_ (below_step zB_ hb);clear HB;have HO129:=n0_;have HB:=n1_;clear n0_ n1_;clear hb ho30;have hcv31:=own_string (P:=Try.prog) Try.underlying29 Try.underlying5 Try.underlying9 (Kd.own_of_R HO129.out)))
                 go_roundg kj7
                 case measure => have:=HK1.out;have:=HJ7.out;omega
                 case rel => exact ⟨(x4_1 ++ (strOfNums y127)),(wrap64 (x5_1 + 3)),zV_,zV_,H',⟨by have:=HK1.out;have:=HJ7.out;omega⟩,⟨by repeat (first|(with_reducible first|exact HB.out|apply za_|apply zn_|apply zd_)|exact HB.out)⟩⟩
                ·rw [if_neg c28] at H
                 exact absurd H (by simp)
             ·rw [if_neg c22] at H
              exact absurd H (by simp)
            ·rw [if_neg c21] at H
             exact absurd H (by simp)
           ·replace c20:=Bool.eq_false_iff.mpr c20
            subst c20
            have H1 : (some ((⟨#[]⟩ : ByteArray),false)) = some (r1,r2):=by rw [if_neg (show ¬ (false = true) by decide)] at H;exact H
            clear H
            have H:=H1
            clear H1
            simp only [Option.some.injEq,Prod.mk.injEq] at H
            obtain ⟨rfl,rfl⟩:=H
            have p18 : 0 ≤ ((ji15) : Int):=zo_
            have q18 : (ji15) < (a0.size : Int):=zo_
            have hx18:=bt_at a0 (ji15)
            replace p18:=eq_true p18
            replace q18:=eq_true q18
            go_wp2_with (first|((with_reducible refine gate_callee (f:=35) rfl ?_);refine goesL_ (some 41) rfl rfl Try.func35 (by kernel_rfl) rfl #[.int .u8 (bt a0 (ji15))] rfl (by (try simp only [List.map_toArray,List.map_cons,List.map_nil]);first|done|(simp only [hji15];rfl)|rfl|(simp only [List.length_drop,List.length_take];rfl)) ?_;(with_reducible refine (spec_l05Byte.calls (bt a0 (ji15)) false _ A19.out).mono ?_);rintro e w' ⟨rfl,⟨nd,rfl⟩⟩;refine ⟨_,rfl,?_⟩))
            go_ret2
            exact ⟨by first|rfl|(simp [errW_none,errW_some] <;> rfl)|(simp only [← hji15];first|rfl|(simp [errW_none,errW_some] <;> rfl))|(simp [*,errW_none,errW_some] <;> rfl),by repeat (first|(with_reducible first|exact HB.out|apply za_|apply zn_|apply zd_)|exact HB.out)⟩
          ·rw [if_neg c17] at H
           exact absurd H (by simp)
         ·rw [if_neg c16] at H
          exact absurd H (by simp)
        ·replace c14:=Bool.eq_false_iff.mpr c14
         subst c14
         have H1 : (if 0 ≤ x5_1 then (if x5_1 < (a0.size : Int) then ((some (([bt a0 x5_1,(bt a0 x5_1)] : List Int) : List Int)).bind fun y130 => (if x4_1.size + (strOfNums y130).size ≤ 9223372036854775807 then (spec_l05Rows.l0 kj7 a0 (x4_1 ++ (strOfNums y130)) (wrap64 (x5_1 + 1))) else (none))) else (none)) else (none)) = some (r1,r2):=by rw [if_neg (show ¬ (false = true) by decide)] at H;exact H
         clear H
         have H:=H1
         clear H1
         by_cases c32 : 0 ≤ x5_1
         ·rw [if_pos c32] at H
          have c32b0 : decide (0 ≤ x5_1) = true:=decide_eq_true c32
          clear c32
          by_cases c33 : x5_1 < (a0.size : Int)
          ·rw [if_pos c33] at H
           have c33b0 : decide (x5_1 < (a0.size : Int)) = true:=decide_eq_true c33
           clear c33
           obtain ⟨y130,hy130⟩ : ∃ y_ : List Int,y_ = (([bt a0 x5_1,(bt a0 x5_1)] : List Int)):=⟨_,rfl⟩
           replace H : (if x4_1.size + (strOfNums y130).size ≤ 9223372036854775807 then (spec_l05Rows.l0 kj7 a0 (x4_1 ++ (strOfNums y130)) (wrap64 (x5_1 + 1))) else (none)) = some (r1,r2):=by first|(rw [hy130];with_reducible exact H)|(have H2_:=(Option.bind_some _ _).symm.trans H;rw [hy130];with_reducible exact H2_)|(have H2_:=(Option.bind_some _ _).symm.trans H;with_reducible exact H2_)|with_reducible exact H|(rw [hy130];exact H)|exact H
           have Ny130:=zm_ hy130
           clear hy130
           by_cases c35 : x4_1.size + (strOfNums y130).size ≤ 9223372036854775807
           ·rw [if_pos c35] at H
            have c35b0:=eq_true c35
            have c35b1 : decide (x4_1.size + (strOfNums y130).size ≤ 9223372036854775807) = true:=decide_eq_true c35
            try have c35b2 : (9223372036854775807 < x4_1.size + (strOfNums y130).size) = False:=eq_false (Nat.not_lt.2 c35)
            have H':=zm_ H
            clear H
            have p34 : 0 ≤ (x5_1 : Int):=zo_
            have q34 : x5_1 < (a0.size : Int):=zo_
            have hx34:=bt_at a0 x5_1
            replace p34:=eq_true p34
            replace q34:=eq_true q34
            go_wp2_with (first|((with_reducible refine gate_dst (N:=64) rfl ?_);refine Kd.R_lit (Kd.int .u8) _ 5 ?hg (N:=64) ?hd (xs:=([bt a0 x5_1,(bt a0 x5_1)] : List Int)) (inner:=[.int .u8 (bt a0 x5_1),.int .u8 (bt a0 x5_1)]) (ok:=fun _ => True) (okp:=fun _ => True) ?hr ?hp (fun _ hk => hk) trivial (Below.refl _ _) (Nat.le_refl _) (by simp) ?_;(case hd => rfl);(case hg => rfl);(case hr => first|(go_simp;done)|(go_simp;rfl));(case hp => exact (Reps.one (show Kd.M (Kd.int .u8) _ _ _ (bt a0 x5_1) [.int .u8 (bt a0 x5_1)] from rfl) (Reps.one (show Kd.M (Kd.int .u8) _ _ _ (bt a0 x5_1) [.int .u8 (bt a0 x5_1)] from rfl) (Reps.none _ _))));intro v131 w36 ho37 hb hg_ hnew_;clear hg_ hnew_;(first|rw [← Ny130.out] at ho37|(simp only [Int.reduceToNat] at ho37;rw [← Ny130.out] at ho37));have n0_:=zm_ (Kd.R_lower ho37 (below_size zB_));have n1_:=zm_ (below_step zB_ hb);clear HB;have HO132:=n0_;have HB:=n1_;clear n0_ n1_;clear hb ho37;have hcv38:=own_string (P:=Try.prog) Try.underlying29 Try.underlying5 Try.underlying9 (Kd.own_of_R HO132.out)))
            go_roundg kj7
            case measure => have:=HK1.out;have:=HJ7.out;omega
            case rel => exact ⟨(x4_1 ++ (strOfNums y130)),((wrap64 (x5_1 + 1))),zV_,zV_,H',⟨by have:=HK1.out;have:=HJ7.out;omega⟩,⟨by repeat (first|(with_reducible first|exact HB.out|apply za_|apply zn_|apply zd_)|exact HB.out)⟩⟩
           ·rw [if_neg c35] at H
            exact absurd H (by simp)
          ·rw [if_neg c33] at H
           exact absurd H (by simp)
         ·rw [if_neg c32] at H
          exact absurd H (by simp)
     ·replace c6:=Bool.eq_false_iff.mpr c6
      subst c6
      have H1 : (some ((⟨#[]⟩ : ByteArray),false)) = some (r1,r2):=by rw [if_neg (show ¬ (false = true) by decide)] at H;exact H
      clear H
      have H:=H1
      clear H1
      simp only [Option.some.injEq,Prod.mk.injEq] at H
      obtain ⟨rfl,rfl⟩:=H
      have p4 : 0 ≤ (x5_1 : Int):=zo_
      have q4 : x5_1 < (a0.size : Int):=zo_
      have hx4:=bt_at a0 x5_1
      replace p4:=eq_true p4
      replace q4:=eq_true q4
      go_wp2_with (first|((with_reducible refine gate_callee (f:=35) rfl ?_);refine goesL_ (some 15) rfl rfl Try.func35 (by kernel_rfl) rfl #[.int .u8 (bt a0 x5_1)] rfl zq_ ?_;(with_reducible refine (spec_l05Byte.calls (bt a0 x5_1) false _ A5.out).mono ?_);rintro e w' ⟨rfl,⟨nd,rfl⟩⟩;refine ⟨_,rfl,?_⟩))
      go_ret2
      exact ⟨zE_,by repeat (first|(with_reducible first|exact HB.out|apply za_|apply zn_|apply zd_)|exact HB.out)⟩
    ·rw [if_neg c3] at H
     exact absurd H (by simp)
   ·rw [if_neg c2] at H
    have c2b0 : decide (x5_1 < (a0.size : Int)) = false:=decide_eq_false c2
    clear c2
    replace H:=Option.bind_eq_some_iff.mp H
    obtain ⟨t124,A390,H⟩:=H
    replace H : (some (x4_1,t124)) = some (r1,r2):=H
    have A39:=zm_ A390
    clear A390
    simp only [Option.some.injEq,Prod.mk.injEq] at H
    obtain ⟨rfl,rfl⟩:=H
    go_wp2_with (first|((with_reducible refine gate_callee (f:=45) rfl ?_);refine goesL_ (some 71) rfl rfl Try.func45 (by kernel_rfl) rfl #[.int .i64 (a0.size : Int),.int .i64 1,.int .i64 12] rfl zq_ ?_;(with_reducible refine (spec_l01In.calls (a0.size : Int) 1 12 t124 _ A39.out).mono ?_);rintro e w' ⟨rfl,⟨nd,rfl⟩⟩;refine ⟨_,rfl,?_⟩))
    go_ret2
    exact ⟨zE_,by repeat (first|(with_reducible first|exact HB.out|apply za_|apply zn_|apply zd_)|exact HB.out)⟩

mutual
def spec_InSet.l0 : Nat → Int → ByteArray → Bool → Int → Option (Bool)
 |0,_,_,_,_ => none
 |k + 1,x1,x5,x6,x7 => if (wrap64 (x7 + 1)) < (x5.size : Int) then (spec_InSet.j1 k x1 x5 x6 x7 x6) else (spec_InSet.j1 k x1 x5 x6 x7 false)
def spec_InSet.j1 : Nat → Int → ByteArray → Bool → Int → Bool → Option (Bool)
 |0,_,_,_,_,_ => none
 |k + 1,x1,x5,x6,x7,x20 => if x20 = true then (if 0 ≤ x7 then (if x7 < (x5.size : Int) then (if x1 ≥ (bt x5 x7) then (if 0 ≤ (wrap64 (x7 + 1)) then (if (wrap64 (x7 + 1)) < (x5.size : Int) then (if x1 ≤ (bt x5 (wrap64 (x7 + 1))) then (some true) else (spec_InSet.l0 k x1 x5 x6 (wrap64 (x7 + 2)))) else (none)) else (none)) else (spec_InSet.l0 k x1 x5 x6 (wrap64 (x7 + 2)))) else (none)) else (none)) else (some false)
end
def spec_InSet.f (k : Nat) (a0 : ByteArray) (a1 : Int) : Option (Bool):=(spec_l05Rows.f k a0).bind fun bt133 => (spec_InSet.l0 k a1 bt133.1 bt133.2 0)
theorem spec_InSet.mono_l : ∀ k,(∀ y0 y1 y2 y3,LeO (spec_InSet.l0 k y0 y1 y2 y3) (spec_InSet.l0 (k + 1) y0 y1 y2 y3)) ∧ (∀ y0 y1 y2 y3 y4,LeO (spec_InSet.j1 k y0 y1 y2 y3 y4) (spec_InSet.j1 (k + 1) y0 y1 y2 y3 y4))
 |0 => ⟨fun _ _ _ _ r h => by simp [spec_InSet.l0] at h,fun _ _ _ _ _ r h => by simp [spec_InSet.j1] at h⟩
 |k + 1 => by
  obtain ⟨ih0,ih1⟩:=spec_InSet.mono_l k
  refine ⟨?_,?_⟩
  ·intro y0 y1 y2 y3
   unfold spec_InSet.l0
   repeat' first
   |(with_reducible exact ih0 _ _ _ _)
   |(with_reducible exact ih1 _ _ _ _ _)
   |(with_reducible exact spec_l05Rows.mono _ _)
   |(with_reducible exact LeO.refl _)
   |(with_reducible exact LeO.none _)
   |(with_reducible refine LeO.ite ?_ ?_)
   |(with_reducible refine LeO.bind ?_ (fun _ => ?_))
  ·intro y0 y1 y2 y3 y4
   unfold spec_InSet.j1
   repeat' first
   |(with_reducible exact ih0 _ _ _ _)
   |(with_reducible exact ih1 _ _ _ _ _)
   |(with_reducible exact spec_l05Rows.mono _ _)
   |(with_reducible exact LeO.refl _)
   |(with_reducible exact LeO.none _)
   |(with_reducible refine LeO.ite ?_ ?_)
   |(with_reducible refine LeO.bind ?_ (fun _ => ?_))
theorem spec_InSet.mono : ∀ a0 a1 k,LeO (spec_InSet.f k a0 a1) (spec_InSet.f (k + 1) a0 a1):=by
 intro a0 a1 k
 obtain ⟨ih0,ih1⟩:=spec_InSet.mono_l k
 unfold spec_InSet.f
 repeat' first
   |(with_reducible exact ih0 _ _ _ _)
   |(with_reducible exact ih1 _ _ _ _ _)
   |(with_reducible exact spec_l05Rows.mono _ _)
   |(with_reducible exact LeO.refl _)
   |(with_reducible exact LeO.none _)
   |(with_reducible refine LeO.ite ?_ ?_)
   |(with_reducible refine LeO.bind ?_ (fun _ => ?_))
set_option maxHeartbeats 8000000 in
set_option maxRecDepth 100000 in
theorem spec_InSet.calls (k : Nat) (a0 : ByteArray) (a1 : Int) (r : Bool) (w : World) (h : spec_InSet.f k a0 a1 = some r) :
  Calls Try.prog 15 #[.string a0,.int .u8 a1] w fun e w' => e = .returned (.bool r) ∧ Below w.heap.size w w':=by
 have HB:=zm_ (Below.refl w.heap.size w)
 have H : ((spec_l05Rows.f k a0).bind fun bt133 => (spec_InSet.l0 k a1 bt133.1 bt133.2 0)) = some r:=h
 clear h
 replace H:=Option.bind_eq_some_iff.mp H
 obtain ⟨⟨t133,t134⟩,A30,H⟩:=H
 replace H : (spec_InSet.l0 k a1 t133 t134 0) = some r:=H
 have A3:=zm_ A30
 clear A30
 have H':=zm_ H
 clear H
 go_enter Try.func15,Try.ntmps15
 go_wp2_with (first|((with_reducible refine gate_callee (f:=32) rfl ?_);refine goesL_ (some 10) rfl rfl Try.func32 (by kernel_rfl) rfl #[.string a0] rfl zq_ ?_;(with_reducible refine (spec_l05Rows.calls k a0 t133 t134 _ A3.out).mono ?_);rintro e w4 ⟨rfl,hb⟩;refine ⟨_,rfl,?_⟩;replace HB:=zm_ (below_step zB_ hb);(try clear hb)))
 go_loopg [7] k (fun kq v7 w' => ∃ (x7_1 : Int),v7 = .int .i64 x7_1 ∧ Aside0 (spec_InSet.l0 kq a1 t133 t134 x7_1 = some r) ∧ Aside0 (kq ≤ k) ∧ Aside0 (Below w.heap.size w w'))
 case atStart => exact ⟨(0),zV_,H',⟨Nat.le_refl _⟩,⟨by repeat (first|(with_reducible first|exact HB.out|apply za_|apply zn_|apply zd_)|exact HB.out)⟩⟩
 case round =>
  clear H'
  try clear c1
  try clear p2
  try clear c3
  obtain ⟨x7_1,rfl,HA,HK1,HB⟩:=hrel
  cases gk with
  |zero => exact absurd HA.out (by simp [spec_InSet.l0])
  |succ k1 =>
   have H:=HA.out
   clear HA
   simp only [spec_InSet.l0] at H
   have HC5:=zm_ H
   clear H
   go_upto_region 3 with (fail)
   go_cut [20] (fun v20 wc => ∃ (kq : Nat) (x20_4 : Bool),v20 = .bool x20_4 ∧ Aside0 (spec_InSet.j1 kq a1 t133 t134 x7_1 x20_4 = some r) ∧ Aside0 (kq ≤ k1) ∧ Aside0 (Below w.heap.size w wc))
   case first =>
    have H:=HC5.out
    clear HC5
    by_cases c6 : (wrap64 (x7_1 + 1)) < (t133.size : Int)
    ·rw [if_pos c6] at H
     have c6b0 : decide ((wrap64 (x7_1 + 1)) < (t133.size : Int)) = true:=decide_eq_true c6
     clear c6
     (first|rw [c6b0]|(simp only [i64_w,i32_w];rw [c6b0])|skip)
     have H':=zm_ H
     clear H
     go_wp2
     go_meet
     case rel => exact ⟨_,(t134),zV_,H',⟨by have:=HK1.out;first|omega|exact Nat.le_refl _⟩,⟨by repeat (first|(with_reducible first|exact HB.out|apply za_|apply zn_|apply zd_)|exact HB.out)⟩⟩
    ·rw [if_neg c6] at H
     have c6b0 : decide ((wrap64 (x7_1 + 1)) < (t133.size : Int)) = false:=decide_eq_false c6
     clear c6
     (first|rw [c6b0]|(simp only [i64_w,i32_w];rw [c6b0])|skip)
     have H':=zm_ H
     clear H
     go_wp2
     go_meet
     case rel => exact ⟨_,(false),zV_,H',⟨by have:=HK1.out;first|omega|exact Nat.le_refl _⟩,⟨by repeat (first|(with_reducible first|exact HB.out|apply za_|apply zn_|apply zd_)|exact HB.out)⟩⟩
   case rest =>
    clear HC5
    try clear c1
    try clear p2
    try clear c3
    try clear c6
    try clear c6b0
    try clear p6
    try clear p2
    obtain ⟨kq,x20_4,rfl,HA,HJ4,HB⟩:=hcut
    cases kq with
    |zero => exact absurd HA.out (by simp [spec_InSet.j1])
    |succ kj4 =>
     have H:=HA.out
     clear HA
     simp only [spec_InSet.j1] at H
     by_cases c7 : x20_4 = true
     ·subst c7
      have H1 : (if 0 ≤ x7_1 then (if x7_1 < (t133.size : Int) then (if a1 ≥ (bt t133 x7_1) then (if 0 ≤ (wrap64 (x7_1 + 1)) then (if (wrap64 (x7_1 + 1)) < (t133.size : Int) then (if a1 ≤ (bt t133 (wrap64 (x7_1 + 1))) then (some true) else (spec_InSet.l0 kj4 a1 t133 t134 (wrap64 (x7_1 + 2)))) else (none)) else (none)) else (spec_InSet.l0 kj4 a1 t133 t134 (wrap64 (x7_1 + 2)))) else (none)) else (none)) = some r:=by rw [if_pos rfl] at H;exact H
      clear H
      have H:=H1
      clear H1
      by_cases c8 : 0 ≤ x7_1
      ·rw [if_pos c8] at H
       have c8b0 : decide (0 ≤ x7_1) = true:=decide_eq_true c8
       clear c8
       by_cases c9 : x7_1 < (t133.size : Int)
       ·rw [if_pos c9] at H
        have c9b0 : decide (x7_1 < (t133.size : Int)) = true:=decide_eq_true c9
        clear c9
        by_cases c11 : a1 ≥ (bt t133 x7_1)
        ·rw [if_pos c11] at H
         have c11b0 : decide ((bt t133 x7_1) ≤ a1) = true:=decide_eq_true c11
         clear c11
         obtain ⟨ji12,hji12⟩ : ∃ j_ : Int,(wrap64 (x7_1 + 1)) = j_:=⟨_,rfl⟩
         replace H : (if 0 ≤ (ji12) then (if (ji12) < (t133.size : Int) then (if a1 ≤ (bt t133 (ji12)) then (some true) else (spec_InSet.l0 kj4 a1 t133 t134 (wrap64 (x7_1 + 2)))) else (none)) else (none)) = some r:=by first|(rw [hji12] at H;exact H)|(simp only [hji12] at H ⊢;exact H)
         have hji12w : (IntKind.i64.wrap (x7_1 + 1)) = ji12:=(i64_w _).trans hji12
         by_cases c13 : 0 ≤ (ji12)
         ·rw [if_pos c13] at H
          have c13b0 : decide (0 ≤ (ji12)) = true:=decide_eq_true c13
          clear c13
          by_cases c14 : (ji12) < (t133.size : Int)
          ·rw [if_pos c14] at H
           have c14b0 : decide ((ji12) < (t133.size : Int)) = true:=decide_eq_true c14
           clear c14
           by_cases c16 : a1 ≤ (bt t133 (ji12))
           ·rw [if_pos c16] at H
            have c16b0 : decide (a1 ≤ (bt t133 (ji12))) = true:=decide_eq_true c16
            clear c16
            obtain rfl:=Option.some.inj H
            have p10 : 0 ≤ (x7_1 : Int):=zo_
            have q10 : x7_1 < (t133.size : Int):=zo_
            have hx10:=bt_at t133 x7_1
            replace p10:=eq_true p10
            replace q10:=eq_true q10
            have p15 : 0 ≤ ((ji12) : Int):=zo_
            have q15 : (ji12) < (t133.size : Int):=zo_
            have hx15:=bt_at t133 (ji12)
            replace p15:=eq_true p15
            replace q15:=eq_true q15
            go_wp2
            go_ret
            exact ⟨by first|rfl|(simp [errW_none,errW_some] <;> rfl)|(simp only [← hji12];first|rfl|(simp [errW_none,errW_some] <;> rfl))|(simp [*,errW_none,errW_some] <;> rfl),by repeat (first|(with_reducible first|exact HB.out|apply za_|apply zn_|apply zd_)|exact HB.out)⟩
           ·rw [if_neg c16] at H
            have c16b0 : decide (a1 ≤ (bt t133 (ji12))) = false:=decide_eq_false c16
            clear c16
            have H':=zm_ H
            clear H
            have p10 : 0 ≤ (x7_1 : Int):=zo_
            have q10 : x7_1 < (t133.size : Int):=zo_
            have hx10:=bt_at t133 x7_1
            replace p10:=eq_true p10
            replace q10:=eq_true q10
            have p15 : 0 ≤ ((ji12) : Int):=zo_
            have q15 : (ji12) < (t133.size : Int):=zo_
            have hx15:=bt_at t133 (ji12)
            replace p15:=eq_true p15
            replace q15:=eq_true q15
            go_wp2
            go_roundg kj4
            case measure => have:=HK1.out;have:=HJ4.out;omega
            case rel => exact ⟨(wrap64 (x7_1 + 2)),zV_,H',⟨by have:=HK1.out;have:=HJ4.out;omega⟩,⟨by repeat (first|(with_reducible first|exact HB.out|apply za_|apply zn_|apply zd_)|exact HB.out)⟩⟩
          ·rw [if_neg c14] at H
           exact absurd H (by simp)
         ·rw [if_neg c13] at H
          exact absurd H (by simp)
        ·rw [if_neg c11] at H
         have c11b0 : decide ((bt t133 x7_1) ≤ a1) = false:=decide_eq_false c11
         clear c11
         have H':=zm_ H
         clear H
         have p10 : 0 ≤ (x7_1 : Int):=zo_
         have q10 : x7_1 < (t133.size : Int):=zo_
         have hx10:=bt_at t133 x7_1
         replace p10:=eq_true p10
         replace q10:=eq_true q10
         go_wp2
         go_roundg kj4
         case measure => have:=HK1.out;have:=HJ4.out;omega
         case rel => exact ⟨(wrap64 (x7_1 + 2)),zV_,H',⟨by have:=HK1.out;have:=HJ4.out;omega⟩,⟨by repeat (first|(with_reducible first|exact HB.out|apply za_|apply zn_|apply zd_)|exact HB.out)⟩⟩
       ·rw [if_neg c9] at H
        exact absurd H (by simp)
      ·rw [if_neg c8] at H
       exact absurd H (by simp)
     ·replace c7:=Bool.eq_false_iff.mpr c7
      subst c7
      have H1 : (some false) = some r:=by rw [if_neg (show ¬ (false = true) by decide)] at H;exact H
      clear H
      have H:=H1
      clear H1
      obtain rfl:=Option.some.inj H
      go_wp2
      go_ret
      exact ⟨zE_,by repeat (first|(with_reducible first|exact HB.out|apply za_|apply zn_|apply zd_)|exact HB.out)⟩

def spec_SetBytes.l0 : Nat → ByteArray → ByteArray → Int → Option (ByteArray)
 |0,_,_,_ => none
 |k + 1,x0,x3,x4 => if x4 < 256 then ((spec_InSet.f k x0 ((x4) % 256)).bind fun t135 => (if t135 = true then ((some (([(x4) % 256] : List Int) : List Int)).bind fun y136 => (if x3.size + (strOfNums y136).size ≤ 9223372036854775807 then (spec_SetBytes.l0 k x0 (x3 ++ (strOfNums y136)) (wrap64 (x4 + 1))) else (none))) else (spec_SetBytes.l0 k x0 x3 (wrap64 (x4 + 1))))) else (some x3)
def spec_SetBytes.f (k : Nat) (a0 : ByteArray) : Option (ByteArray):=spec_SetBytes.l0 k a0 (⟨#[]⟩ : ByteArray) 0
theorem spec_SetBytes.mono_l : ∀ k,(∀ y0 y1 y2,LeO (spec_SetBytes.l0 k y0 y1 y2) (spec_SetBytes.l0 (k + 1) y0 y1 y2))
 |0 => fun _ _ _ r h => by simp [spec_SetBytes.l0] at h
 |k + 1 => by
  have ih0:=spec_SetBytes.mono_l k
  ·intro y0 y1 y2
   unfold spec_SetBytes.l0
   repeat' first
   |(with_reducible exact ih0 _ _ _)
   |(with_reducible exact spec_InSet.mono _ _ _)
   |(with_reducible exact LeO.refl _)
   |(with_reducible exact LeO.none _)
   |(with_reducible refine LeO.ite ?_ ?_)
   |(with_reducible refine LeO.bind ?_ (fun _ => ?_))
theorem spec_SetBytes.mono : ∀ a0 k,LeO (spec_SetBytes.f k a0) (spec_SetBytes.f (k + 1) a0):=by
 intro a0 k
 have ih0:=spec_SetBytes.mono_l k
 unfold spec_SetBytes.f
 repeat' first
   |(with_reducible exact ih0 _ _ _)
   |(with_reducible exact spec_InSet.mono _ _ _)
   |(with_reducible exact LeO.refl _)
   |(with_reducible exact LeO.none _)
   |(with_reducible refine LeO.ite ?_ ?_)
   |(with_reducible refine LeO.bind ?_ (fun _ => ?_))
set_option maxHeartbeats 8000000 in
set_option maxRecDepth 100000 in
theorem spec_SetBytes.calls (k : Nat) (a0 : ByteArray) (r : ByteArray) (w : World) (h : spec_SetBytes.f k a0 = some r) :
  Calls Try.prog 17 #[.string a0] w fun e w' => e = .returned (.string r) ∧ Below w.heap.size w w':=by
 have HB:=zm_ (Below.refl w.heap.size w)
 have H : (spec_SetBytes.l0 k a0 (⟨#[]⟩ : ByteArray) 0) = some r:=h
 clear h
 have H':=zm_ H
 clear H
 go_enter Try.func17,Try.ntmps17
 go_wp2
 go_loopg [3,4] k (fun kq v3 v4 w' => ∃ (x3_1 : ByteArray) (x4_1 : Int),v3 = .string x3_1 ∧ v4 = .int .i64 x4_1 ∧ Aside0 (spec_SetBytes.l0 kq a0 x3_1 x4_1 = some r) ∧ Aside0 (kq ≤ k) ∧ Aside0 (Below w.heap.size w w'))
 case atStart => exact ⟨((⟨#[]⟩ : ByteArray)),(0),zV_,zV_,H',⟨Nat.le_refl _⟩,⟨by repeat (first|(with_reducible first|exact HB.out|apply za_|apply zn_|apply zd_)|exact HB.out)⟩⟩
 case round =>
  clear H'
  try clear c1
  obtain ⟨x3_1,x4_1,rfl,rfl,HA,HK1,HB⟩:=hrel
  cases gk with
  |zero => exact absurd HA.out (by simp [spec_SetBytes.l0])
  |succ k1 =>
   have H:=HA.out
   clear HA
   simp only [spec_SetBytes.l0] at H
   by_cases c2 : x4_1 < 256
   ·rw [if_pos c2] at H
    have c2b0 : decide (x4_1 < 256) = true:=decide_eq_true c2
    clear c2
    replace H:=Option.bind_eq_some_iff.mp H
    obtain ⟨t135,A30,H⟩:=H
    replace H : (if t135 = true then ((some (([(x4_1) % 256] : List Int) : List Int)).bind fun y136 => (if x3_1.size + (strOfNums y136).size ≤ 9223372036854775807 then (spec_SetBytes.l0 k1 a0 (x3_1 ++ (strOfNums y136)) (wrap64 (x4_1 + 1))) else (none))) else (spec_SetBytes.l0 k1 a0 x3_1 (wrap64 (x4_1 + 1)))) = some r:=H
    have A3:=zm_ A30
    clear A30
    by_cases c4 : t135 = true
    ·subst c4
     have H1 : ((some (([(x4_1) % 256] : List Int) : List Int)).bind fun y136 => (if x3_1.size + (strOfNums y136).size ≤ 9223372036854775807 then (spec_SetBytes.l0 k1 a0 (x3_1 ++ (strOfNums y136)) (wrap64 (x4_1 + 1))) else (none))) = some r:=by rw [if_pos rfl] at H;exact H
     clear H
     have H:=H1
     clear H1
     obtain ⟨y136,hy136⟩ : ∃ y_ : List Int,y_ = (([(x4_1) % 256] : List Int)):=⟨_,rfl⟩
     replace H : (if x3_1.size + (strOfNums y136).size ≤ 9223372036854775807 then (spec_SetBytes.l0 k1 a0 (x3_1 ++ (strOfNums y136)) (wrap64 (x4_1 + 1))) else (none)) = some r:=by first|(rw [hy136];with_reducible exact H)|(have H2_:=(Option.bind_some _ _).symm.trans H;rw [hy136];with_reducible exact H2_)|(have H2_:=(Option.bind_some _ _).symm.trans H;with_reducible exact H2_)|with_reducible exact H|(rw [hy136];exact H)|exact H
     have Ny136:=zm_ hy136
     clear hy136
     by_cases c5 : x3_1.size + (strOfNums y136).size ≤ 9223372036854775807
     ·rw [if_pos c5] at H
      have c5b0:=eq_true c5
      have c5b1 : decide (x3_1.size + (strOfNums y136).size ≤ 9223372036854775807) = true:=decide_eq_true c5
      try have c5b2 : (9223372036854775807 < x3_1.size + (strOfNums y136).size) = False:=eq_false (Nat.not_lt.2 c5)
      have H':=zm_ H
      clear H
      go_wp2_with (first|((with_reducible refine gate_callee (f:=15) rfl ?_);refine goesL_ (some 12) rfl rfl Try.func15 (by kernel_rfl) rfl #[.string a0,.int .u8 ((x4_1) % 256)] rfl zq_ ?_;(with_reducible refine (spec_InSet.calls k1 a0 ((x4_1) % 256) true _ A3.out).mono ?_);rintro e w6 ⟨rfl,hb⟩;refine ⟨_,rfl,?_⟩;replace HB:=zm_ (below_step zB_ hb);(try clear hb))|((with_reducible refine gate_dst (N:=16) rfl ?_);refine Kd.R_lit (Kd.int .u8) _ 5 ?hg (N:=16) ?hd (xs:=([(x4_1) % 256] : List Int)) (inner:=[.int .u8 ((x4_1) % 256)]) (ok:=fun _ => True) (okp:=fun _ => True) ?hr ?hp (fun _ hk => hk) trivial (Below.refl _ _) (Nat.le_refl _) (by simp) ?_;(case hd => rfl);(case hg => rfl);(case hr => first|(go_simp;done)|(go_simp;rfl));(case hp => exact (Reps.one (show Kd.M (Kd.int .u8) _ _ _ ((x4_1) % 256) [.int .u8 ((x4_1) % 256)] from rfl) (Reps.none _ _)));intro v137 w7 ho8 hb hg_ hnew_;clear hg_ hnew_;(first|rw [← Ny136.out] at ho8|(simp only [Int.reduceToNat] at ho8;rw [← Ny136.out] at ho8));have n0_:=zm_ (Kd.R_lower ho8 (below_size zB_));have n1_:=zm_ (below_step zB_ hb);clear HB;have HO138:=n0_;have HB:=n1_;clear n0_ n1_;clear hb ho8;have hcv9:=own_string (P:=Try.prog) Try.underlying29 Try.underlying5 Try.underlying9 (Kd.own_of_R HO138.out)))
      go_roundg k1
      case measure => have:=HK1.out;omega
      case rel => exact ⟨(x3_1 ++ (strOfNums y136)),(wrap64 (x4_1 + 1)),zV_,zV_,H',⟨by have:=HK1.out;omega⟩,⟨by repeat (first|(with_reducible first|exact HB.out|apply za_|apply zn_|apply zd_)|exact HB.out)⟩⟩
     ·rw [if_neg c5] at H
      exact absurd H (by simp)
    ·replace c4:=Bool.eq_false_iff.mpr c4
     subst c4
     have H1 : (spec_SetBytes.l0 k1 a0 x3_1 (wrap64 (x4_1 + 1))) = some r:=by rw [if_neg (show ¬ (false = true) by decide)] at H;exact H
     clear H
     have H:=H1
     clear H1
     have H':=zm_ H
     clear H
     go_wp2_with (first|((with_reducible refine gate_callee (f:=15) rfl ?_);refine goesL_ (some 12) rfl rfl Try.func15 (by kernel_rfl) rfl #[.string a0,.int .u8 ((x4_1) % 256)] rfl zq_ ?_;(with_reducible refine (spec_InSet.calls k1 a0 ((x4_1) % 256) false _ A3.out).mono ?_);rintro e w10 ⟨rfl,hb⟩;refine ⟨_,rfl,?_⟩;replace HB:=zm_ (below_step zB_ hb);(try clear hb)))
     go_roundg k1
     case measure => have:=HK1.out;omega
     case rel => exact ⟨(x3_1),(wrap64 (x4_1 + 1)),zV_,zV_,H',⟨by have:=HK1.out;omega⟩,⟨by repeat (first|(with_reducible first|exact HB.out|apply za_|apply zn_|apply zd_)|exact HB.out)⟩⟩
   ·rw [if_neg c2] at H
    have c2b0 : decide (x4_1 < 256) = false:=decide_eq_false c2
    clear c2
    obtain rfl:=Option.some.inj H
    go_wp2
    go_ret
    exact ⟨zE_,by repeat (first|(with_reducible first|exact HB.out|apply za_|apply zn_|apply zd_)|exact HB.out)⟩

def impl_SetBytes.f (k : Nat) (a0 : ByteArray) : Option (ByteArray):=(impl_readSet.f k a0).bind fun bt139 => (if bt139.2 = true then (some (strOfNums bt139.1)) else (some (⟨#[]⟩ : ByteArray)))
theorem impl_SetBytes.mono : ∀ a0 k,LeO (impl_SetBytes.f k a0) (impl_SetBytes.f (k + 1) a0):=by
 intro a0 k
 unfold impl_SetBytes.f
 repeat' first
   |(with_reducible exact impl_readSet.mono _ _)
   |(with_reducible exact LeO.refl _)
   |(with_reducible exact LeO.none _)
   |(with_reducible refine LeO.ite ?_ ?_)
   |(with_reducible refine LeO.bind ?_ (fun _ => ?_))
set_option maxHeartbeats 8000000 in
set_option maxRecDepth 100000 in
theorem impl_SetBytes.calls (k : Nat) (a0 : ByteArray) (r : ByteArray) (w : World) (h : impl_SetBytes.f k a0 = some r) :
  Calls Try.prog 18 #[.string a0] w fun e w' => e = .returned (.string r) ∧ Below w.heap.size w w':=by
 have HB:=zm_ (Below.refl w.heap.size w)
 have H : ((impl_readSet.f k a0).bind fun bt139 => (if bt139.2 = true then (some (strOfNums bt139.1)) else (some (⟨#[]⟩ : ByteArray)))) = some r:=h
 clear h
 replace H:=Option.bind_eq_some_iff.mp H
 obtain ⟨⟨t139,t140⟩,A20,H⟩:=H
 replace H : (if t140 = true then (some (strOfNums t139)) else (some (⟨#[]⟩ : ByteArray))) = some r:=H
 have A2:=zm_ A20
 clear A20
 by_cases c3 : t140 = true
 ·subst c3
  have H1 : (some (strOfNums t139)) = some r:=by rw [if_pos rfl] at H;exact H
  clear H
  have H:=H1
  clear H1
  obtain rfl:=Option.some.inj H
  go_enter Try.func18,Try.ntmps18
  go_wp2_with (first|((with_reducible refine gate_callee (f:=33) rfl ?_);refine goesL_ (some 7) rfl rfl Try.func33 (by kernel_rfl) rfl #[.string a0] rfl zq_ ?_;(with_reducible refine (impl_readSet.calls k a0 t139 true _ A2.out).mono ?_);rintro e w4 ⟨v141,rfl,ho0,hb⟩;refine ⟨_,rfl,?_⟩;have n0_:=zm_ (Kd.R_lower ho0 (below_size zB_));have n1_:=zm_ (below_step zB_ hb);clear HB;have HO142:=n0_;have HB:=n1_;clear n0_ n1_;(try clear hb);(try clear hb2);(try clear hk);(try clear hi);(try clear ho0);have hcv5:=own_string (P:=Try.prog) Try.underlying29 Try.underlying5 Try.underlying9 (Kd.own_of_R HO142.out)))
  go_ret
  exact ⟨zE_,by repeat (first|(with_reducible first|exact HB.out|apply za_|apply zn_|apply zd_)|exact HB.out)⟩
 ·replace c3:=Bool.eq_false_iff.mpr c3
  subst c3
  have H1 : (some (⟨#[]⟩ : ByteArray)) = some r:=by rw [if_neg (show ¬ (false = true) by decide)] at H;exact H
  clear H
  have H:=H1
  clear H1
  obtain rfl:=Option.some.inj H
  go_enter Try.func18,Try.ntmps18
  go_wp2_with (first|((with_reducible refine gate_callee (f:=33) rfl ?_);refine goesL_ (some 7) rfl rfl Try.func33 (by kernel_rfl) rfl #[.string a0] rfl zq_ ?_;(with_reducible refine (impl_readSet.calls k a0 t139 false _ A2.out).mono ?_);rintro e w6 ⟨v141,rfl,ho0,hb⟩;refine ⟨_,rfl,?_⟩;have n0_:=zm_ (Kd.R_lower ho0 (below_size zB_));have n1_:=zm_ (below_step zB_ hb);clear HB;have HO142:=n0_;have HB:=n1_;clear n0_ n1_;(try clear hb);(try clear hb2);(try clear hk);(try clear hi);(try clear ho0)))
  go_ret
  exact ⟨zE_,by repeat (first|(with_reducible first|exact HB.out|apply za_|apply zn_|apply zd_)|exact HB.out)⟩

def spec_SetOk.f (k : Nat) (a0 : ByteArray) : Option (Bool):=(spec_l05Rows.f k a0).bind fun bt143 => (some bt143.2)
theorem spec_SetOk.mono : ∀ a0 k,LeO (spec_SetOk.f k a0) (spec_SetOk.f (k + 1) a0):=by
 intro a0 k
 unfold spec_SetOk.f
 repeat' first
   |(with_reducible exact spec_l05Rows.mono _ _)
   |(with_reducible exact LeO.refl _)
   |(with_reducible exact LeO.none _)
   |(with_reducible refine LeO.ite ?_ ?_)
   |(with_reducible refine LeO.bind ?_ (fun _ => ?_))
set_option maxHeartbeats 8000000 in
set_option maxRecDepth 100000 in
theorem spec_SetOk.calls (k : Nat) (a0 : ByteArray) (r : Bool) (w : World) (h : spec_SetOk.f k a0 = some r) :
  Calls Try.prog 13 #[.string a0] w fun e w' => e = .returned (.bool r) ∧ Below w.heap.size w w':=by
 have HB:=zm_ (Below.refl w.heap.size w)
 have H : ((spec_l05Rows.f k a0).bind fun bt143 => (some bt143.2)) = some r:=h
 clear h
 replace H:=Option.bind_eq_some_iff.mp H
 obtain ⟨⟨t143,t144⟩,A20,H⟩:=H
 replace H : (some t144) = some r:=H
 have A2:=zm_ A20
 clear A20
 obtain rfl:=Option.some.inj H
 go_enter Try.func13,Try.ntmps13
 go_wp2_with (first|((with_reducible refine gate_callee (f:=32) rfl ?_);refine goesL_ (some 7) rfl rfl Try.func32 (by kernel_rfl) rfl #[.string a0] rfl zq_ ?_;(with_reducible refine (spec_l05Rows.calls k a0 t143 t144 _ A2.out).mono ?_);rintro e w3 ⟨rfl,hb⟩;refine ⟨_,rfl,?_⟩;replace HB:=zm_ (below_step zB_ hb);(try clear hb)))
 go_ret
 exact ⟨zE_,by repeat (first|(with_reducible first|exact HB.out|apply za_|apply zn_|apply zd_)|exact HB.out)⟩

end Go.Proofs.Ytbkncnlehlldeaa.MFnSetsMet
