import Derived.Test.YtbkncnlehlldeaaMFnSetsMetx0
import Derived.Test.YtbkncnlehlldeaaMFnSetsMetx1
import Derived.Test.YtbkncnlehlldeaaMFnSetsMetx2
import Derived.Test.YtbkncnlehlldeaaMFnSetsMetx3
import Derived.Test.YtbkncnlehlldeaaMFnSetsMetx4
namespace Go.Proofs.Ytbkncnlehlldeaa.MFnSetsMet
open Go.RowKit Go.Proofs.YtbkncnlehlldeaaW.PrintWords Go.Proofs.YtbkncnlehlldeaaW.PrintLast Go.Proofs.YtbkncnlehlldeaaW.PrintMore
attribute [local go_sem] max2_int min2_int max_two min_two max_three min_three max_four min_four
set_option linter.unusedVariables false
set_option linter.unusedSimpArgs false

def impl_JoinSets.j0 : Nat → ByteArray → ByteArray → Bool → Option (ByteArray × Bool)
 |0,_,_,_ => none
 |k + 1,x0,x1,x13 => if x13 = true then (some ((⟨#[]⟩ : ByteArray),false)) else ((impl_SetBytes.f k x0).bind fun t199 => ((impl_SetBytes.f k x1).bind fun t200 => (if t199.size + t200.size ≤ 9223372036854775807 then ((impl_SetOf.f k (t199 ++ t200)).bind fun bt201 => (some (bt201.1,bt201.2))) else (none))))
def impl_JoinSets.f (k : Nat) (a0 : ByteArray) (a1 : ByteArray) : Option (ByteArray × Bool):=(impl_SetOk.f k a0).bind fun t197 => (if t197 = true then ((impl_SetOk.f k a1).bind fun t198 => (impl_JoinSets.j0 k a0 a1 (!t198))) else (impl_JoinSets.j0 k a0 a1 true))
theorem impl_JoinSets.mono_l : ∀ k,(∀ y0 y1 y2,LeO (impl_JoinSets.j0 k y0 y1 y2) (impl_JoinSets.j0 (k + 1) y0 y1 y2))
 |0 => fun _ _ _ r h => by simp [impl_JoinSets.j0] at h
 |k + 1 => by
  have ih0:=impl_JoinSets.mono_l k
  ·intro y0 y1 y2
   unfold impl_JoinSets.j0
   repeat' first
   |(with_reducible exact ih0 _ _ _)
   |(with_reducible exact impl_SetBytes.mono _ _)
   |(with_reducible exact impl_SetOf.mono _ _)
   |(with_reducible exact impl_SetOk.mono _ _)
   |(with_reducible exact LeO.refl _)
   |(with_reducible exact LeO.none _)
   |(with_reducible refine LeO.ite ?_ ?_)
   |(with_reducible refine LeO.bind ?_ (fun _ => ?_))
theorem impl_JoinSets.mono : ∀ a0 a1 k,LeO (impl_JoinSets.f k a0 a1) (impl_JoinSets.f (k + 1) a0 a1):=by
 intro a0 a1 k
 have ih0:=impl_JoinSets.mono_l k
 unfold impl_JoinSets.f
 repeat' first
   |(with_reducible exact ih0 _ _ _)
   |(with_reducible exact impl_SetBytes.mono _ _)
   |(with_reducible exact impl_SetOf.mono _ _)
   |(with_reducible exact impl_SetOk.mono _ _)
   |(with_reducible exact LeO.refl _)
   |(with_reducible exact LeO.none _)
   |(with_reducible refine LeO.ite ?_ ?_)
   |(with_reducible refine LeO.bind ?_ (fun _ => ?_))
set_option maxHeartbeats 8000000 in
set_option maxRecDepth 100000 in
theorem impl_JoinSets.calls (k : Nat) (a0 : ByteArray) (a1 : ByteArray) (r1 : ByteArray) (r2 : Bool) (w : World) (h : impl_JoinSets.f k a0 a1 = some (r1,r2)) :
  Calls Try.prog 22 #[.string a0,.string a1] w fun e w' => e = .returned (.tuple #[.string r1,.bool r2]) ∧ Below w.heap.size w w':=by
 have HB:=zm_ (Below.refl w.heap.size w)
 have H : ((impl_SetOk.f k a0).bind fun t197 => (if t197 = true then ((impl_SetOk.f k a1).bind fun t198 => (impl_JoinSets.j0 k a0 a1 (!t198))) else (impl_JoinSets.j0 k a0 a1 true))) = some (r1,r2):=h
 clear h
 have HC3:=zm_ H
 clear H
 go_enter Try.func22,Try.ntmps22
 go_upto_region 1 with (fail)
 go_cut [13] (fun v13 wc => ∃ (kq : Nat) (x13_2 : Bool),v13 = .bool x13_2 ∧ Aside0 (impl_JoinSets.j0 kq a0 a1 x13_2 = some (r1,r2)) ∧ Aside0 (kq ≤ k) ∧ Aside0 (Below w.heap.size w wc))
 case first =>
  have H:=HC3.out
  clear HC3
  replace H:=Option.bind_eq_some_iff.mp H
  obtain ⟨t197,A40,H⟩:=H
  replace H : (if t197 = true then ((impl_SetOk.f k a1).bind fun t198 => (impl_JoinSets.j0 k a0 a1 (!t198))) else (impl_JoinSets.j0 k a0 a1 true)) = some (r1,r2):=H
  have A4:=zm_ A40
  clear A40
  by_cases c5 : t197 = true
  ·subst c5
   have H1 : ((impl_SetOk.f k a1).bind fun t198 => (impl_JoinSets.j0 k a0 a1 (!t198))) = some (r1,r2):=by rw [if_pos rfl] at H;exact H
   clear H
   have H:=H1
   clear H1
   replace H:=Option.bind_eq_some_iff.mp H
   obtain ⟨t198,A60,H⟩:=H
   replace H : (impl_JoinSets.j0 k a0 a1 (!t198)) = some (r1,r2):=H
   have A6:=zm_ A60
   clear A60
   have H':=zm_ H
   clear H
   go_wp2_with (first|((with_reducible refine gate_callee (f:=14) rfl ?_);refine goesL_ (some 7) rfl rfl Try.func14 (by kernel_rfl) rfl #[.string a0] rfl zq_ ?_;(with_reducible refine (impl_SetOk.calls k a0 true _ A4.out).mono ?_);rintro e w7 ⟨rfl,hb⟩;refine ⟨_,rfl,?_⟩;replace HB:=zm_ (below_step zB_ hb);(try clear hb))|(go_at_call 14;(with_reducible refine (impl_SetOk.calls k a1 t198 _ A6.out).mono ?_);rintro e w8 ⟨rfl,hb⟩;replace HB:=zm_ (below_step zB_ hb);(try clear hb)))
   go_meet
   case rel => exact ⟨_,(!t198),zV_,H',⟨by first|omega|exact Nat.le_refl _⟩,⟨by repeat (first|(with_reducible first|exact HB.out|apply za_|apply zn_|apply zd_)|exact HB.out)⟩⟩
  ·replace c5:=Bool.eq_false_iff.mpr c5
   subst c5
   have H1 : (impl_JoinSets.j0 k a0 a1 true) = some (r1,r2):=by rw [if_neg (show ¬ (false = true) by decide)] at H;exact H
   clear H
   have H:=H1
   clear H1
   have H':=zm_ H
   clear H
   go_wp2_with (first|((with_reducible refine gate_callee (f:=14) rfl ?_);refine goesL_ (some 7) rfl rfl Try.func14 (by kernel_rfl) rfl #[.string a0] rfl zq_ ?_;(with_reducible refine (impl_SetOk.calls k a0 false _ A4.out).mono ?_);rintro e w9 ⟨rfl,hb⟩;refine ⟨_,rfl,?_⟩;replace HB:=zm_ (below_step zB_ hb);(try clear hb)))
   go_meet
   case rel => exact ⟨_,(true),zV_,H',⟨by first|omega|exact Nat.le_refl _⟩,⟨by repeat (first|(with_reducible first|exact HB.out|apply za_|apply zn_|apply zd_)|exact HB.out)⟩⟩
 case rest =>
  clear HC3
  try clear c1
  try clear c2
  try clear p2
  try clear c5
  obtain ⟨kq,x13_2,rfl,HA,HJ2,HB⟩:=hcut
  cases kq with
  |zero => exact absurd HA.out (by simp [impl_JoinSets.j0])
  |succ kj2 =>
   have H:=HA.out
   clear HA
   simp only [impl_JoinSets.j0] at H
   by_cases c10 : x13_2 = true
   ·subst c10
    have H1 : (some ((⟨#[]⟩ : ByteArray),false)) = some (r1,r2):=by rw [if_pos rfl] at H;exact H
    clear H
    have H:=H1
    clear H1
    simp only [Option.some.injEq,Prod.mk.injEq] at H
    obtain ⟨rfl,rfl⟩:=H
    go_wp2
    go_ret2
    exact ⟨zE_,by repeat (first|(with_reducible first|exact HB.out|apply za_|apply zn_|apply zd_)|exact HB.out)⟩
   ·replace c10:=Bool.eq_false_iff.mpr c10
    subst c10
    have H1 : ((impl_SetBytes.f kj2 a0).bind fun t199 => ((impl_SetBytes.f kj2 a1).bind fun t200 => (if t199.size + t200.size ≤ 9223372036854775807 then ((impl_SetOf.f kj2 (t199 ++ t200)).bind fun bt201 => (some (bt201.1,bt201.2))) else (none)))) = some (r1,r2):=by rw [if_neg (show ¬ (false = true) by decide)] at H;exact H
    clear H
    have H:=H1
    clear H1
    replace H:=Option.bind_eq_some_iff.mp H
    obtain ⟨t199,A110,H⟩:=H
    replace H : ((impl_SetBytes.f kj2 a1).bind fun t200 => (if t199.size + t200.size ≤ 9223372036854775807 then ((impl_SetOf.f kj2 (t199 ++ t200)).bind fun bt201 => (some (bt201.1,bt201.2))) else (none))) = some (r1,r2):=H
    have A11:=zm_ A110
    clear A110
    replace H:=Option.bind_eq_some_iff.mp H
    obtain ⟨t200,A120,H⟩:=H
    replace H : (if t199.size + t200.size ≤ 9223372036854775807 then ((impl_SetOf.f kj2 (t199 ++ t200)).bind fun bt201 => (some (bt201.1,bt201.2))) else (none)) = some (r1,r2):=H
    have A12:=zm_ A120
    clear A120
    by_cases c13 : t199.size + t200.size ≤ 9223372036854775807
    ·rw [if_pos c13] at H
     have c13b0:=eq_true c13
     have c13b1 : decide (t199.size + t200.size ≤ 9223372036854775807) = true:=decide_eq_true c13
     try have c13b2 : (9223372036854775807 < t199.size + t200.size) = False:=eq_false (Nat.not_lt.2 c13)
     replace H:=Option.bind_eq_some_iff.mp H
     obtain ⟨⟨t201,t202⟩,A140,H⟩:=H
     replace H : (some (t201,t202)) = some (r1,r2):=H
     have A14:=zm_ A140
     clear A140
     simp only [Option.some.injEq,Prod.mk.injEq] at H
     obtain ⟨rfl,rfl⟩:=H
     go_wp2_with (first|((with_reducible refine gate_callee (f:=18) rfl ?_);refine goesL_ (some 15) rfl rfl Try.func18 (by kernel_rfl) rfl #[.string a0] rfl zq_ ?_;(with_reducible refine (impl_SetBytes.calls kj2 a0 t199 _ A11.out).mono ?_);rintro e w15 ⟨rfl,hb⟩;refine ⟨_,rfl,?_⟩;replace HB:=zm_ (below_step zB_ hb);(try clear hb))|((with_reducible refine gate_callee (f:=18) rfl ?_);refine goesL_ (some 17) rfl rfl Try.func18 (by kernel_rfl) rfl #[.string a1] rfl zq_ ?_;(with_reducible refine (impl_SetBytes.calls kj2 a1 t200 _ A12.out).mono ?_);rintro e w16 ⟨rfl,hb⟩;refine ⟨_,rfl,?_⟩;replace HB:=zm_ (below_step zB_ hb);(try clear hb))|((with_reducible refine gate_callee (f:=20) rfl ?_);refine goesL_ (some 19) rfl rfl Try.func20 (by kernel_rfl) rfl #[.string (t199 ++ t200)] rfl zq_ ?_;(with_reducible refine (impl_SetOf.calls kj2 (t199 ++ t200) t201 t202 _ A14.out).mono ?_);rintro e w17 ⟨rfl,hb⟩;refine ⟨_,rfl,?_⟩;replace HB:=zm_ (below_step zB_ hb);(try clear hb)))
     go_ret2
     exact ⟨zE_,by repeat (first|(with_reducible first|exact HB.out|apply za_|apply zn_|apply zd_)|exact HB.out)⟩
    ·rw [if_neg c13] at H
     exact absurd H (by simp)

mutual
def spec_MeetSets.j0 : Nat → ByteArray → ByteArray → Bool → Option (ByteArray × Bool)
 |0,_,_,_ => none
 |k + 1,x0,x1,x16 => if x16 = true then (some ((⟨#[]⟩ : ByteArray),false)) else ((spec_SetBytes.f k x0).bind fun t205 => (spec_MeetSets.l0 k x1 (⟨#[]⟩ : ByteArray) t205 0))
def spec_MeetSets.l0 : Nat → ByteArray → ByteArray → ByteArray → Int → Option (ByteArray × Bool)
 |0,_,_,_,_ => none
 |k + 1,x1,x6,x7,x8 => if x8 < (x7.size : Int) then (if 0 ≤ x8 then ((spec_InSet.f k x1 (bt x7 x8)).bind fun t206 => (if t206 = true then (if x8 ≤ (wrap64 (x8 + 1)) then (if (wrap64 (x8 + 1)) ≤ (x7.size : Int) then (if x6.size + (x7.extract (x8 : Int).toNat ((wrap64 (x8 + 1)) : Int).toNat).size ≤ 9223372036854775807 then (spec_MeetSets.l0 k x1 (x6 ++ (x7.extract (x8 : Int).toNat ((wrap64 (x8 + 1)) : Int).toNat)) x7 (wrap64 (x8 + 1))) else (none)) else (none)) else (none)) else (spec_MeetSets.l0 k x1 x6 x7 (wrap64 (x8 + 1))))) else (none)) else ((spec_SetOf.f k x6).bind fun bt207 => (some (bt207.1,bt207.2)))
end
def spec_MeetSets.f (k : Nat) (a0 : ByteArray) (a1 : ByteArray) : Option (ByteArray × Bool):=(spec_SetOk.f k a0).bind fun t203 => (if t203 = true then ((spec_SetOk.f k a1).bind fun t204 => (spec_MeetSets.j0 k a0 a1 (!t204))) else (spec_MeetSets.j0 k a0 a1 true))
theorem spec_MeetSets.mono_l : ∀ k,(∀ y0 y1 y2,LeO (spec_MeetSets.j0 k y0 y1 y2) (spec_MeetSets.j0 (k + 1) y0 y1 y2)) ∧ (∀ y0 y1 y2 y3,LeO (spec_MeetSets.l0 k y0 y1 y2 y3) (spec_MeetSets.l0 (k + 1) y0 y1 y2 y3))
 |0 => ⟨fun _ _ _ r h => by simp [spec_MeetSets.j0] at h,fun _ _ _ _ r h => by simp [spec_MeetSets.l0] at h⟩
 |k + 1 => by
  obtain ⟨ih0,ih1⟩:=spec_MeetSets.mono_l k
  refine ⟨?_,?_⟩
  ·intro y0 y1 y2
   unfold spec_MeetSets.j0
   repeat' first
   |(with_reducible exact ih0 _ _ _)
   |(with_reducible exact ih1 _ _ _ _)
   |(with_reducible exact spec_InSet.mono _ _ _)
   |(with_reducible exact spec_SetBytes.mono _ _)
   |(with_reducible exact spec_SetOf.mono _ _)
   |(with_reducible exact spec_SetOk.mono _ _)
   |(with_reducible exact LeO.refl _)
   |(with_reducible exact LeO.none _)
   |(with_reducible refine LeO.ite ?_ ?_)
   |(with_reducible refine LeO.bind ?_ (fun _ => ?_))
  ·intro y0 y1 y2 y3
   unfold spec_MeetSets.l0
   repeat' first
   |(with_reducible exact ih0 _ _ _)
   |(with_reducible exact ih1 _ _ _ _)
   |(with_reducible exact spec_InSet.mono _ _ _)
   |(with_reducible exact spec_SetBytes.mono _ _)
   |(with_reducible exact spec_SetOf.mono _ _)
   |(with_reducible exact spec_SetOk.mono _ _)
   |(with_reducible exact LeO.refl _)
   |(with_reducible exact LeO.none _)
   |(with_reducible refine LeO.ite ?_ ?_)
   |(with_reducible refine LeO.bind ?_ (fun _ => ?_))
theorem spec_MeetSets.mono : ∀ a0 a1 k,LeO (spec_MeetSets.f k a0 a1) (spec_MeetSets.f (k + 1) a0 a1):=by
 intro a0 a1 k
 obtain ⟨ih0,ih1⟩:=spec_MeetSets.mono_l k
 unfold spec_MeetSets.f
 repeat' first
   |(with_reducible exact ih0 _ _ _)
   |(with_reducible exact ih1 _ _ _ _)
   |(with_reducible exact spec_InSet.mono _ _ _)
   |(with_reducible exact spec_SetBytes.mono _ _)
   |(with_reducible exact spec_SetOf.mono _ _)
   |(with_reducible exact spec_SetOk.mono _ _)
   |(with_reducible exact LeO.refl _)
   |(with_reducible exact LeO.none _)
   |(with_reducible refine LeO.ite ?_ ?_)
   |(with_reducible refine LeO.bind ?_ (fun _ => ?_))
set_option maxHeartbeats 8000000 in
set_option maxRecDepth 100000 in
theorem spec_MeetSets.calls (k : Nat) (a0 : ByteArray) (a1 : ByteArray) (r1 : ByteArray) (r2 : Bool) (w : World) (h : spec_MeetSets.f k a0 a1 = some (r1,r2)) :
  Calls Try.prog 23 #[.string a0,.string a1] w fun e w' => e = .returned (.tuple #[.string r1,.bool r2]) ∧ Below w.heap.size w w':=by
 have HB:=zm_ (Below.refl w.heap.size w)
 have H : ((spec_SetOk.f k a0).bind fun t203 => (if t203 = true then ((spec_SetOk.f k a1).bind fun t204 => (spec_MeetSets.j0 k a0 a1 (!t204))) else (spec_MeetSets.j0 k a0 a1 true))) = some (r1,r2):=h
 clear h
 have HC3:=zm_ H
 clear H
 go_enter Try.func23,Try.ntmps23
 go_upto_region 1 with (fail)
 go_cut [16] (fun v16 wc => ∃ (kq : Nat) (x16_2 : Bool),v16 = .bool x16_2 ∧ Aside0 (spec_MeetSets.j0 kq a0 a1 x16_2 = some (r1,r2)) ∧ Aside0 (kq ≤ k) ∧ Aside0 (Below w.heap.size w wc))
 case first =>
  have H:=HC3.out
  clear HC3
  replace H:=Option.bind_eq_some_iff.mp H
  obtain ⟨t203,A40,H⟩:=H
  replace H : (if t203 = true then ((spec_SetOk.f k a1).bind fun t204 => (spec_MeetSets.j0 k a0 a1 (!t204))) else (spec_MeetSets.j0 k a0 a1 true)) = some (r1,r2):=H
  have A4:=zm_ A40
  clear A40
  by_cases c5 : t203 = true
  ·subst c5
   have H1 : ((spec_SetOk.f k a1).bind fun t204 => (spec_MeetSets.j0 k a0 a1 (!t204))) = some (r1,r2):=by rw [if_pos rfl] at H;exact H
   clear H
   have H:=H1
   clear H1
   replace H:=Option.bind_eq_some_iff.mp H
   obtain ⟨t204,A60,H⟩:=H
   replace H : (spec_MeetSets.j0 k a0 a1 (!t204)) = some (r1,r2):=H
   have A6:=zm_ A60
   clear A60
   have H':=zm_ H
   clear H
   go_wp2_with (first|((with_reducible refine gate_callee (f:=13) rfl ?_);refine goesL_ (some 10) rfl rfl Try.func13 (by kernel_rfl) rfl #[.string a0] rfl zq_ ?_;(with_reducible refine (spec_SetOk.calls k a0 true _ A4.out).mono ?_);rintro e w7 ⟨rfl,hb⟩;refine ⟨_,rfl,?_⟩;replace HB:=zm_ (below_step zB_ hb);(try clear hb))|(go_at_call 13;(with_reducible refine (spec_SetOk.calls k a1 t204 _ A6.out).mono ?_);rintro e w8 ⟨rfl,hb⟩;replace HB:=zm_ (below_step zB_ hb);(try clear hb)))
   go_meet
   case rel => exact ⟨_,(!t204),zV_,H',⟨by first|omega|exact Nat.le_refl _⟩,⟨by repeat (first|(with_reducible first|exact HB.out|apply za_|apply zn_|apply zd_)|exact HB.out)⟩⟩
  ·replace c5:=Bool.eq_false_iff.mpr c5
   subst c5
   have H1 : (spec_MeetSets.j0 k a0 a1 true) = some (r1,r2):=by rw [if_neg (show ¬ (false = true) by decide)] at H;exact H
   clear H
   have H:=H1
   clear H1
   have H':=zm_ H
   clear H
   go_wp2_with (first|((with_reducible refine gate_callee (f:=13) rfl ?_);refine goesL_ (some 10) rfl rfl Try.func13 (by kernel_rfl) rfl #[.string a0] rfl zq_ ?_;(with_reducible refine (spec_SetOk.calls k a0 false _ A4.out).mono ?_);rintro e w9 ⟨rfl,hb⟩;refine ⟨_,rfl,?_⟩;replace HB:=zm_ (below_step zB_ hb);(try clear hb)))
   go_meet
   case rel => exact ⟨_,(true),zV_,H',⟨by first|omega|exact Nat.le_refl _⟩,⟨by repeat (first|(with_reducible first|exact HB.out|apply za_|apply zn_|apply zd_)|exact HB.out)⟩⟩
 case rest =>
  clear HC3
  try clear c1
  try clear c2
  try clear p2
  try clear c5
  obtain ⟨kq,x16_2,rfl,HA,HJ2,HB⟩:=hcut
  cases kq with
  |zero => exact absurd HA.out (by simp [spec_MeetSets.j0])
  |succ kj2 =>
   have H:=HA.out
   clear HA
   simp only [spec_MeetSets.j0] at H
   by_cases c10 : x16_2 = true
   ·subst c10
    have H1 : (some ((⟨#[]⟩ : ByteArray),false)) = some (r1,r2):=by rw [if_pos rfl] at H;exact H
    clear H
    have H:=H1
    clear H1
    simp only [Option.some.injEq,Prod.mk.injEq] at H
    obtain ⟨rfl,rfl⟩:=H
    go_wp2
    go_ret2
    exact ⟨zE_,by repeat (first|(with_reducible first|exact HB.out|apply za_|apply zn_|apply zd_)|exact HB.out)⟩
   ·replace c10:=Bool.eq_false_iff.mpr c10
    subst c10
    have H1 : ((spec_SetBytes.f kj2 a0).bind fun t205 => (spec_MeetSets.l0 kj2 a1 (⟨#[]⟩ : ByteArray) t205 0)) = some (r1,r2):=by rw [if_neg (show ¬ (false = true) by decide)] at H;exact H
    clear H
    have H:=H1
    clear H1
    replace H:=Option.bind_eq_some_iff.mp H
    obtain ⟨t205,A110,H⟩:=H
    replace H : (spec_MeetSets.l0 kj2 a1 (⟨#[]⟩ : ByteArray) t205 0) = some (r1,r2):=H
    have A11:=zm_ A110
    clear A110
    have H':=zm_ H
    clear H
    go_wp2_with (first|((with_reducible refine gate_callee (f:=17) rfl ?_);refine goesL_ (some 18) rfl rfl Try.func17 (by kernel_rfl) rfl #[.string a0] rfl zq_ ?_;(with_reducible refine (spec_SetBytes.calls kj2 a0 t205 _ A11.out).mono ?_);rintro e w12 ⟨rfl,hb⟩;refine ⟨_,rfl,?_⟩;replace HB:=zm_ (below_step zB_ hb);(try clear hb)))
    go_loopg [6,8] kj2 (fun kq v6 v8 w' => ∃ (x6_2 : ByteArray) (x8_2 : Int),v6 = .string x6_2 ∧ v8 = .int .i64 x8_2 ∧ Aside0 (spec_MeetSets.l0 kq a1 x6_2 t205 x8_2 = some (r1,r2)) ∧ Aside0 (kq ≤ kj2) ∧ Aside0 (Below w.heap.size w w'))
    case atStart => exact ⟨((⟨#[]⟩ : ByteArray)),(0),zV_,zV_,H',⟨Nat.le_refl _⟩,⟨by repeat (first|(with_reducible first|exact HB.out|apply za_|apply zn_|apply zd_)|exact HB.out)⟩⟩
    case round =>
     clear H'
     try clear c1
     try clear c2
     try clear p2
     try clear c5
     try clear c10
     try clear p2
     obtain ⟨x6_2,x8_2,rfl,rfl,HA,HK2,HB⟩:=hrel
     cases gk with
     |zero => exact absurd HA.out (by simp [spec_MeetSets.l0])
     |succ k2 =>
      have H:=HA.out
      clear HA
      simp only [spec_MeetSets.l0] at H
      by_cases c13 : x8_2 < (t205.size : Int)
      ·rw [if_pos c13] at H
       have c13b0 : decide (x8_2 < (t205.size : Int)) = true:=decide_eq_true c13
       clear c13
       by_cases c14 : 0 ≤ x8_2
       ·rw [if_pos c14] at H
        have c14b0 : decide (0 ≤ x8_2) = true:=decide_eq_true c14
        clear c14
        replace H:=Option.bind_eq_some_iff.mp H
        obtain ⟨t206,A160,H⟩:=H
        replace H : (if t206 = true then (if x8_2 ≤ (wrap64 (x8_2 + 1)) then (if (wrap64 (x8_2 + 1)) ≤ (t205.size : Int) then (if x6_2.size + (t205.extract (x8_2 : Int).toNat ((wrap64 (x8_2 + 1)) : Int).toNat).size ≤ 9223372036854775807 then (spec_MeetSets.l0 k2 a1 (x6_2 ++ (t205.extract (x8_2 : Int).toNat ((wrap64 (x8_2 + 1)) : Int).toNat)) t205 (wrap64 (x8_2 + 1))) else (none)) else (none)) else (none)) else (spec_MeetSets.l0 k2 a1 x6_2 t205 (wrap64 (x8_2 + 1)))) = some (r1,r2):=H
        have A16:=zm_ A160
        clear A160
        by_cases c17 : t206 = true
        ·subst c17
         have H1 : (if x8_2 ≤ (wrap64 (x8_2 + 1)) then (if (wrap64 (x8_2 + 1)) ≤ (t205.size : Int) then (if x6_2.size + (t205.extract (x8_2 : Int).toNat ((wrap64 (x8_2 + 1)) : Int).toNat).size ≤ 9223372036854775807 then (spec_MeetSets.l0 k2 a1 (x6_2 ++ (t205.extract (x8_2 : Int).toNat ((wrap64 (x8_2 + 1)) : Int).toNat)) t205 (wrap64 (x8_2 + 1))) else (none)) else (none)) else (none)) = some (r1,r2):=by rw [if_pos rfl] at H;exact H
         clear H
         have H:=H1
         clear H1
         have c18b0:=eq_true (zo_ : 0 ≤ x8_2)
         by_cases c19 : x8_2 ≤ (wrap64 (x8_2 + 1))
         ·rw [if_pos c19] at H
          have c19b0:=eq_true c19
          have c19b1 : decide (x8_2 ≤ (wrap64 (x8_2 + 1))) = true:=decide_eq_true c19
          by_cases c20 : (wrap64 (x8_2 + 1)) ≤ (t205.size : Int)
          ·rw [if_pos c20] at H
           have c20b0:=eq_true c20
           have c20b1 : decide ((wrap64 (x8_2 + 1)) ≤ (t205.size : Int)) = true:=decide_eq_true c20
           by_cases c21 : x6_2.size + (t205.extract (x8_2 : Int).toNat ((wrap64 (x8_2 + 1)) : Int).toNat).size ≤ 9223372036854775807
           ·rw [if_pos c21] at H
            have c21b0:=eq_true c21
            have c21b1 : decide (x6_2.size + (t205.extract (x8_2 : Int).toNat ((wrap64 (x8_2 + 1)) : Int).toNat).size ≤ 9223372036854775807) = true:=decide_eq_true c21
            try have c21b2 : (9223372036854775807 < x6_2.size + (t205.extract (x8_2 : Int).toNat ((wrap64 (x8_2 + 1)) : Int).toNat).size) = False:=eq_false (Nat.not_lt.2 c21)
            have H':=zm_ H
            clear H
            have p15 : 0 ≤ (x8_2 : Int):=zo_
            have q15 : x8_2 < (t205.size : Int):=zo_
            have hx15:=bt_at t205 x8_2
            replace p15:=eq_true p15
            replace q15:=eq_true q15
            go_wp2_with (first|((with_reducible refine gate_callee (f:=15) rfl ?_);refine goesL_ (some 29) rfl rfl Try.func15 (by kernel_rfl) rfl #[.string a1,.int .u8 (bt t205 x8_2)] rfl zq_ ?_;(with_reducible refine (spec_InSet.calls k2 a1 (bt t205 x8_2) true _ A16.out).mono ?_);rintro e w22 ⟨rfl,hb⟩;refine ⟨_,rfl,?_⟩;replace HB:=zm_ (below_step zB_ hb);(try clear hb)))
            go_roundg k2
            case measure => have:=HJ2.out;have:=HK2.out;omega
            case rel => exact ⟨(x6_2 ++ (t205.extract (x8_2 : Int).toNat ((wrap64 (x8_2 + 1)) : Int).toNat)),(wrap64 (x8_2 + 1)),zV_,zV_,H',⟨by have:=HJ2.out;have:=HK2.out;omega⟩,⟨by repeat (first|(with_reducible first|exact HB.out|apply za_|apply zn_|apply zd_)|exact HB.out)⟩⟩
           ·rw [if_neg c21] at H
            exact absurd H (by simp)
          ·rw [if_neg c20] at H
           exact absurd H (by simp)
         ·rw [if_neg c19] at H
          exact absurd H (by simp)
        ·replace c17:=Bool.eq_false_iff.mpr c17
         subst c17
         have H1 : (spec_MeetSets.l0 k2 a1 x6_2 t205 (wrap64 (x8_2 + 1))) = some (r1,r2):=by rw [if_neg (show ¬ (false = true) by decide)] at H;exact H
         clear H
         have H:=H1
         clear H1
         have H':=zm_ H
         clear H
         have p15 : 0 ≤ (x8_2 : Int):=zo_
         have q15 : x8_2 < (t205.size : Int):=zo_
         have hx15:=bt_at t205 x8_2
         replace p15:=eq_true p15
         replace q15:=eq_true q15
         go_wp2_with (first|((with_reducible refine gate_callee (f:=15) rfl ?_);refine goesL_ (some 29) rfl rfl Try.func15 (by kernel_rfl) rfl #[.string a1,.int .u8 (bt t205 x8_2)] rfl zq_ ?_;(with_reducible refine (spec_InSet.calls k2 a1 (bt t205 x8_2) false _ A16.out).mono ?_);rintro e w23 ⟨rfl,hb⟩;refine ⟨_,rfl,?_⟩;replace HB:=zm_ (below_step zB_ hb);(try clear hb)))
         go_roundg k2
         case measure => have:=HJ2.out;have:=HK2.out;omega
         case rel => exact ⟨(x6_2),(wrap64 (x8_2 + 1)),zV_,zV_,H',⟨by have:=HJ2.out;have:=HK2.out;omega⟩,⟨by repeat (first|(with_reducible first|exact HB.out|apply za_|apply zn_|apply zd_)|exact HB.out)⟩⟩
       ·rw [if_neg c14] at H
        exact absurd H (by simp)
      ·rw [if_neg c13] at H
       have c13b0 : decide (x8_2 < (t205.size : Int)) = false:=decide_eq_false c13
       clear c13
       replace H:=Option.bind_eq_some_iff.mp H
       obtain ⟨⟨t207,t208⟩,A240,H⟩:=H
       replace H : (some (t207,t208)) = some (r1,r2):=H
       have A24:=zm_ A240
       clear A240
       simp only [Option.some.injEq,Prod.mk.injEq] at H
       obtain ⟨rfl,rfl⟩:=H
       go_wp2_with (first|((with_reducible refine gate_callee (f:=19) rfl ?_);refine goesL_ (some 38) rfl rfl Try.func19 (by kernel_rfl) rfl #[.string x6_2] rfl zq_ ?_;(with_reducible refine (spec_SetOf.calls k2 x6_2 t207 t208 _ A24.out).mono ?_);rintro e w25 ⟨rfl,hb⟩;refine ⟨_,rfl,?_⟩;replace HB:=zm_ (below_step zB_ hb);(try clear hb)))
       go_ret2
       exact ⟨zE_,by repeat (first|(with_reducible first|exact HB.out|apply za_|apply zn_|apply zd_)|exact HB.out)⟩




def impl_InSet.f (k : Nat) (a0 : ByteArray) (a1 : Int) : Option (Bool):=(impl_SetBytes.f k a0).bind fun t209 => ((strings_IndexByte.f t209 a1).bind fun t210 => (some (decide (t210 ≥ 0))))
theorem impl_InSet.mono : ∀ a0 a1 k,LeO (impl_InSet.f k a0 a1) (impl_InSet.f (k + 1) a0 a1):=by
 intro a0 a1 k
 unfold impl_InSet.f
 repeat' first
   |(with_reducible exact impl_SetBytes.mono _ _)
   |(with_reducible exact LeO.refl _)
   |(with_reducible exact LeO.none _)
   |(with_reducible refine LeO.ite ?_ ?_)
   |(with_reducible refine LeO.bind ?_ (fun _ => ?_))
set_option maxHeartbeats 8000000 in
set_option maxRecDepth 100000 in
theorem impl_InSet.calls (k : Nat) (a0 : ByteArray) (a1 : Int) (r : Bool) (w : World) (h : impl_InSet.f k a0 a1 = some r) :
  Calls Try.prog 16 #[.string a0,.int .u8 a1] w fun e w' => e = .returned (.bool r) ∧ Below w.heap.size w w':=by
 have HB:=zm_ (Below.refl w.heap.size w)
 have H : ((impl_SetBytes.f k a0).bind fun t209 => ((strings_IndexByte.f t209 a1).bind fun t210 => (some (decide (t210 ≥ 0))))) = some r:=h
 clear h
 replace H:=Option.bind_eq_some_iff.mp H
 obtain ⟨t209,A30,H⟩:=H
 replace H : ((strings_IndexByte.f t209 a1).bind fun t210 => (some (decide (t210 ≥ 0)))) = some r:=H
 have A3:=zm_ A30
 clear A30
 replace H:=Option.bind_eq_some_iff.mp H
 obtain ⟨t210,A40,H⟩:=H
 replace H : (some (decide (t210 ≥ 0))) = some r:=H
 have A4:=zm_ A40
 clear A40
 obtain rfl:=Option.some.inj H
 go_enter Try.func16,Try.ntmps16
 go_wp2_with (first|((with_reducible refine gate_callee (f:=18) rfl ?_);refine goesL_ (some 6) rfl rfl Try.func18 (by kernel_rfl) rfl #[.string a0] rfl zq_ ?_;(with_reducible refine (impl_SetBytes.calls k a0 t209 _ A3.out).mono ?_);rintro e w5 ⟨rfl,hb⟩;refine ⟨_,rfl,?_⟩;replace HB:=zm_ (below_step zB_ hb);(try clear hb))|((with_reducible refine gate_callee (f:=34) rfl ?_);refine goesL_ (some 8) rfl rfl Try.func34 (by kernel_rfl) rfl #[.string t209,.int .u8 a1] rfl zq_ ?_;(with_reducible refine (strings_IndexByte.calls t209 a1 t210 _ A4.out).mono ?_);rintro e w' ⟨rfl,⟨nd,rfl⟩⟩;refine ⟨_,rfl,?_⟩))
 go_ret
 exact ⟨zE_,by repeat (first|(with_reducible first|exact HB.out|apply za_|apply zn_|apply zd_)|exact HB.out)⟩

mutual
def impl_MeetSets.j0 : Nat → ByteArray → ByteArray → List Int → Bool → Option (ByteArray × Bool)
 |0,_,_,_,_ => none
 |k + 1,x0,x1,x2,x16 => if x16 = true then (some ((⟨#[]⟩ : ByteArray),false)) else ((impl_SetBytes.f k x0).bind fun t216 => (impl_MeetSets.l0 k x1 (([] : List Int)) x2 (x2.length : Int) 0))
def impl_MeetSets.l0 : Nat → ByteArray → List Int → List Int → Int → Int → Option (ByteArray × Bool)
 |0,_,_,_,_,_ => none
 |k + 1,x1,x6,x20,x21,x22 => if x22 < x21 then (if 0 ≤ x22 then (if x22 < (x20.length : Int) then ((impl_InSet.f k x1 (rd x20 x22)).bind fun t218 => (if t218 = true then (if x6.length < 140737488355328 then (impl_MeetSets.l0 k x1 (x6 ++ [rd x20 x22]) x20 x21 (wrap64 (x22 + 1))) else (none)) else (impl_MeetSets.l0 k x1 x6 x20 x21 (wrap64 (x22 + 1))))) else (none)) else (none)) else ((impl_SetOf.f k (strOfNums x6)).bind fun bt222 => (some (bt222.1,bt222.2)))
end
def impl_MeetSets.f0 (k : Nat) (a0 : ByteArray) (a1 : ByteArray) (l2 : List Int) : Option (ByteArray × Bool):=(impl_SetOk.f k a0).bind fun t211 => (if t211 = true then ((impl_SetOk.f k a1).bind fun t212 => (impl_MeetSets.j0 k a0 a1 l2 (!t212))) else (impl_MeetSets.j0 k a0 a1 l2 true))
theorem impl_MeetSets.mono_l : ∀ k,(∀ y0 y1 y2 y3,LeO (impl_MeetSets.j0 k y0 y1 y2 y3) (impl_MeetSets.j0 (k + 1) y0 y1 y2 y3)) ∧ (∀ y0 y1 y2 y3 y4,LeO (impl_MeetSets.l0 k y0 y1 y2 y3 y4) (impl_MeetSets.l0 (k + 1) y0 y1 y2 y3 y4))
 |0 => ⟨fun _ _ _ _ r h => by simp [impl_MeetSets.j0] at h,fun _ _ _ _ _ r h => by simp [impl_MeetSets.l0] at h⟩
 |k + 1 => by
  obtain ⟨ih0,ih1⟩:=impl_MeetSets.mono_l k
  refine ⟨?_,?_⟩
  ·intro y0 y1 y2 y3
   unfold impl_MeetSets.j0
   repeat' first
   |(with_reducible exact ih0 _ _ _ _)
   |(with_reducible exact ih1 _ _ _ _ _)
   |(with_reducible exact impl_InSet.mono _ _ _)
   |(with_reducible exact impl_SetBytes.mono _ _)
   |(with_reducible exact impl_SetOf.mono _ _)
   |(with_reducible exact impl_SetOk.mono _ _)
   |(with_reducible exact LeO.refl _)
   |(with_reducible exact LeO.none _)
   |(with_reducible refine LeO.ite ?_ ?_)
   |(with_reducible refine LeO.bind ?_ (fun _ => ?_))
  ·intro y0 y1 y2 y3 y4
   unfold impl_MeetSets.l0
   repeat' first
   |(with_reducible exact ih0 _ _ _ _)
   |(with_reducible exact ih1 _ _ _ _ _)
   |(with_reducible exact impl_InSet.mono _ _ _)
   |(with_reducible exact impl_SetBytes.mono _ _)
   |(with_reducible exact impl_SetOf.mono _ _)
   |(with_reducible exact impl_SetOk.mono _ _)
   |(with_reducible exact LeO.refl _)
   |(with_reducible exact LeO.none _)
   |(with_reducible refine LeO.ite ?_ ?_)
   |(with_reducible refine LeO.bind ?_ (fun _ => ?_))
theorem impl_MeetSets.mono0 : ∀ a0 a1 a2 k,LeO (impl_MeetSets.f0 k a0 a1 a2) (impl_MeetSets.f0 (k + 1) a0 a1 a2):=by
 intro a0 a1 a2 k
 obtain ⟨ih0,ih1⟩:=impl_MeetSets.mono_l k
 unfold impl_MeetSets.f0
 repeat' first
   |(with_reducible exact ih0 _ _ _ _)
   |(with_reducible exact ih1 _ _ _ _ _)
   |(with_reducible exact impl_InSet.mono _ _ _)
   |(with_reducible exact impl_SetBytes.mono _ _)
   |(with_reducible exact impl_SetOf.mono _ _)
   |(with_reducible exact impl_SetOk.mono _ _)
   |(with_reducible exact LeO.refl _)
   |(with_reducible exact LeO.none _)
   |(with_reducible refine LeO.ite ?_ ?_)
   |(with_reducible refine LeO.bind ?_ (fun _ => ?_))
/-- The whole of it: the bytes of the first set,then what is told of them. -/
def impl_MeetSets.f (k : Nat) (a0 : ByteArray) (a1 : ByteArray) : Option (ByteArray × Bool):=(impl_SetBytes.f k a0).bind fun s => if s.size < 4611686018427387904 then impl_MeetSets.f0 k a0 a1 (bytesOf s) else none
theorem impl_MeetSets.mono : ∀ a0 a1 k,LeO (impl_MeetSets.f k a0 a1) (impl_MeetSets.f (k + 1) a0 a1):=fun a0 a1 k => LeO.bind (impl_SetBytes.mono a0 k) (fun _ => LeO.ite (impl_MeetSets.mono0 _ _ _ k) (LeO.none _))
set_option maxHeartbeats 8000000 in
set_option maxRecDepth 100000 in
theorem impl_MeetSets.calls (k : Nat) (a0 : ByteArray) (a1 : ByteArray) (r1 : ByteArray) (r2 : Bool) (w : World) (h : impl_MeetSets.f k a0 a1 = some (r1,r2)) :
  Calls Try.prog 24 #[.string a0,.string a1] w fun e w' => e = .returned (.tuple #[.string r1,.bool r2]) ∧ Below w.heap.size w w':=by
 unfold impl_MeetSets.f at h
 replace h:=Option.bind_eq_some_iff.mp h
 obtain ⟨s_,hs_,h⟩:=h
 have AS_:=zm_ hs_
 clear hs_
 by_cases hsm_ : s_.size < 4611686018427387904
 rotate_left
 ·rw [if_neg hsm_] at h;cases h
 rw [if_pos hsm_] at h
 have HSM_:=zm_ hsm_
 clear hsm_
 obtain ⟨l2,hl2_⟩ : ∃ l : List Int,l = bytesOf s_:=⟨_,rfl⟩
 rw [← hl2_] at h
 have HL2_:=zm_ hl2_
 clear hl2_
 have HB:=zm_ (Below.refl w.heap.size w)
 have H : ((impl_SetOk.f k a0).bind fun t211 => (if t211 = true then ((impl_SetOk.f k a1).bind fun t212 => (impl_MeetSets.j0 k a0 a1 l2 (!t212))) else (impl_MeetSets.j0 k a0 a1 l2 true))) = some (r1,r2):=h
 clear h
 have HC4:=zm_ H
 clear H
 go_enter Try.func24,Try.ntmps24
 go_upto_region 1 with (fail)
 go_cut [16] (fun v16 wc => ∃ (kq : Nat) (x16_3 : Bool),v16 = .bool x16_3 ∧ Aside0 (impl_MeetSets.j0 kq a0 a1 l2 x16_3 = some (r1,r2)) ∧ Aside0 (kq ≤ k) ∧ Aside0 (Below w.heap.size w wc))
 case first =>
  have H:=HC4.out
  clear HC4
  replace H:=Option.bind_eq_some_iff.mp H
  obtain ⟨t211,A50,H⟩:=H
  replace H : (if t211 = true then ((impl_SetOk.f k a1).bind fun t212 => (impl_MeetSets.j0 k a0 a1 l2 (!t212))) else (impl_MeetSets.j0 k a0 a1 l2 true)) = some (r1,r2):=H
  have A5:=zm_ A50
  clear A50
  by_cases c6 : t211 = true
  ·subst c6
   have H1 : ((impl_SetOk.f k a1).bind fun t212 => (impl_MeetSets.j0 k a0 a1 l2 (!t212))) = some (r1,r2):=by rw [if_pos rfl] at H;exact H
   clear H
   have H:=H1
   clear H1
   replace H:=Option.bind_eq_some_iff.mp H
   obtain ⟨t212,A70,H⟩:=H
   replace H : (impl_MeetSets.j0 k a0 a1 l2 (!t212)) = some (r1,r2):=H
   have A7:=zm_ A70
   clear A70
   have H':=zm_ H
   clear H
   go_wp2_with (first|((with_reducible refine gate_callee (f:=14) rfl ?_);refine goesL_ (some 10) rfl rfl Try.func14 (by kernel_rfl) rfl #[.string a0] rfl zq_ ?_;(with_reducible refine (impl_SetOk.calls k a0 true _ A5.out).mono ?_);rintro e w8 ⟨rfl,hb⟩;refine ⟨_,rfl,?_⟩;replace HB:=zm_ (below_step zB_ hb);(try clear hb))|(go_at_call 14;(with_reducible refine (impl_SetOk.calls k a1 t212 _ A7.out).mono ?_);rintro e w9 ⟨rfl,hb⟩;replace HB:=zm_ (below_step zB_ hb);(try clear hb)))
   go_meet
   case rel => exact ⟨_,(!t212),zV_,H',⟨by first|omega|exact Nat.le_refl _⟩,⟨by repeat (first|(with_reducible first|exact HB.out|apply za_|apply zn_|apply zd_)|exact HB.out)⟩⟩
  ·replace c6:=Bool.eq_false_iff.mpr c6
   subst c6
   have H1 : (impl_MeetSets.j0 k a0 a1 l2 true) = some (r1,r2):=by rw [if_neg (show ¬ (false = true) by decide)] at H;exact H
   clear H
   have H:=H1
   clear H1
   have H':=zm_ H
   clear H
   go_wp2_with (first|((with_reducible refine gate_callee (f:=14) rfl ?_);refine goesL_ (some 10) rfl rfl Try.func14 (by kernel_rfl) rfl #[.string a0] rfl zq_ ?_;(with_reducible refine (impl_SetOk.calls k a0 false _ A5.out).mono ?_);rintro e w10 ⟨rfl,hb⟩;refine ⟨_,rfl,?_⟩;replace HB:=zm_ (below_step zB_ hb);(try clear hb)))
   go_meet
   case rel => exact ⟨_,(true),zV_,H',⟨by first|omega|exact Nat.le_refl _⟩,⟨by repeat (first|(with_reducible first|exact HB.out|apply za_|apply zn_|apply zd_)|exact HB.out)⟩⟩
 case rest =>
  clear HC4
  try clear c1
  try clear c2
  try clear p2
  try clear c6
  obtain ⟨kq,x16_3,rfl,HA,HJ3,HB⟩:=hcut
  cases kq with
  |zero => exact absurd HA.out (by simp [impl_MeetSets.j0])
  |succ kj3 =>
   have H:=HA.out
   clear HA
   simp only [impl_MeetSets.j0] at H
   by_cases c11 : x16_3 = true
   ·subst c11
    have H1 : (some ((⟨#[]⟩ : ByteArray),false)) = some (r1,r2):=by rw [if_pos rfl] at H;exact H
    clear H
    have H:=H1
    clear H1
    simp only [Option.some.injEq,Prod.mk.injEq] at H
    obtain ⟨rfl,rfl⟩:=H
    go_wp2
    go_ret2
    exact ⟨zE_,by repeat (first|(with_reducible first|exact HB.out|apply za_|apply zn_|apply zd_)|exact HB.out)⟩
   ·replace c11:=Bool.eq_false_iff.mpr c11
    subst c11
    have H1 : ((impl_SetBytes.f kj3 a0).bind fun t216 => (impl_MeetSets.l0 kj3 a1 (([] : List Int)) l2 (l2.length : Int) 0)) = some (r1,r2):=by rw [if_neg (show ¬ (false = true) by decide)] at H;exact H
    clear H
    have H:=H1
    clear H1
    obtain ⟨y213,hy213⟩ : ∃ y_ : List Int,y_ = (([] : List Int)):=⟨_,rfl⟩
    replace H : ((impl_SetBytes.f kj3 a0).bind fun t216 => (impl_MeetSets.l0 kj3 a1 y213 l2 (l2.length : Int) 0)) = some (r1,r2):=by first|(rw [hy213];with_reducible exact H)|(have H2_:=(Option.bind_some _ _).symm.trans H;rw [hy213];with_reducible exact H2_)|(have H2_:=(Option.bind_some _ _).symm.trans H;with_reducible exact H2_)|with_reducible exact H|(rw [hy213];exact H)|exact H
    have Ny213:=zm_ hy213
    clear hy213
    replace H:=Option.bind_eq_some_iff.mp H
    obtain ⟨t216,A120,H⟩:=H
    replace H : (impl_MeetSets.l0 kj3 a1 y213 l2 (l2.length : Int) 0) = some (r1,r2):=H
    obtain rfl : t216 = s_:=(Option.some.inj ((at_rounds (impl_SetBytes.mono a0) (show kj3 ≤ k from by have:=HJ3.out;omega) A120).symm.trans AS_.out))
    have A12:=zm_ A120
    clear A120
    have HZ_ : Aside0 (l2.length = t216.size):=⟨by rw [HL2_.out];exact bytesOf_length _⟩
    have H':=zm_ H
    clear H
    go_wp2_with (first|((with_reducible refine gate_dst (N:=17) rfl ?_);refine Kd.R_lit (Kd.int .u8) _ 5 ?hg (N:=17) ?hd (xs:=([] : List Int)) (inner:=[]) (ok:=fun _ => True) (okp:=fun _ => True) ?hr ?hp (fun _ hk => hk) trivial (Below.refl _ _) (Nat.le_refl _) (by simp) ?_;(case hd => rfl);(case hg => rfl);(case hr => first|(go_simp;done)|(go_simp;rfl));(case hp => exact (Reps.none _ _));intro v214 w13 ho14 hb hg_ hnew_;clear hg_ hnew_;(first|rw [← Ny213.out] at ho14|(simp only [Int.reduceToNat] at ho14;rw [← Ny213.out] at ho14));have n0_:=zm_ (Kd.R_lower ho14 (below_size zB_));have n1_:=zm_ (below_step zB_ hb);clear HB;have HO215:=n0_;have HB:=n1_;clear n0_ n1_;clear hb ho14)|(go_at_call 18;(with_reducible refine (impl_SetBytes.calls kj3 a0 t216 _ A12.out).mono ?_);rintro e w15 ⟨rfl,hb⟩;obtain ⟨cap_,wn_,hcv_,hcp_,hsz_,hbl_,hH_⟩:=Srt.made t216 w15;have hlt_:=hsz_;obtain ⟨AD_,hAD_⟩ : ∃ a : Addr,a = ⟨w15.heap.size,0,none⟩:=⟨_,rfl⟩;have hADb_ : AD_.block = w15.heap.size:=(by rw [hAD_]);rw [← hAD_,← HZ_.out] at hcv_;have nR_:=Kd.R_below (Kd.R_mono (Kd.R_bound (Kd.R_below (by (with_reducible repeat (first|apply Kd.R_alloc|apply Kd.R_drewN|apply Kd.R_drew));exact HO215.out) hb)) (ok':=fun k_ => k_ ≠ AD_.block) (fun k_ hk_ => by rw [hADb_];exact Nat.ne_of_lt hk_.2.2.1)) hbl_;have nC_ : Kd.C (Kd.int .u8) wn_ (some AD_) l2.length l2:=(by rw [hAD_];exact Kd.C_of_reads (d:=(0 : Int)) (h1:=fun _ => rfl) (Srt.reads_of_holds hH_ (by rw [List.take_of_length_le (by rw [← HL2_.out];exact Nat.le_refl _)];exact HL2_.out.symm) (by rw [← HL2_.out];exact Nat.le_refl _) (by have:=HSM_.out;rw [HZ_.out];omega)));have n1_:=zm_ (below_step (below_step zB_ hb) (Below.mono hbl_ (Nat.le_refl _)));have n0_:=zm_ nR_;have HLC:=zm_ nC_;have HLT:=zm_ (show AD_.block < wn_.heap.size by rw [hADb_];exact hlt_);clear nR_ nC_;clear HO215;clear HB;have HO215:=n0_;have HB:=n1_;clear n0_ n1_;clear hcp_ hsz_ hbl_ hH_ hAD_ hADb_ hlt_;(try clear hb)))
    go_loopg [6,22] kj3 (fun kq v6 v22 w' => ∃ (x6_2 : List Int) (x22_2 : Int),v22 = .int .i64 x22_2 ∧ Aside0 (impl_MeetSets.l0 kq a1 x6_2 l2 (l2.length : Int) x22_2 = some (r1,r2)) ∧ Aside0 (kq ≤ kj3) ∧ Aside0 (Kd.R (Kd.int .u8) 5 w' w.heap.size (fun k_ => k_ ≠ AD_.block) v6 x6_2) ∧ Aside0 (Below w.heap.size w w') ∧ Aside0 (Kd.C (Kd.int .u8) w' (some AD_) l2.length l2))
    case atStart => exact ⟨(y213),(0),zV_,H',⟨Nat.le_refl _⟩,⟨by (with_reducible repeat (first|apply Kd.R_alloc|apply Kd.R_drewN|apply Kd.R_drew));exact HO215.out⟩,⟨by repeat (first|(with_reducible first|exact HB.out|apply za_|apply zn_|apply zd_)|exact HB.out)⟩,⟨HLC.out⟩⟩
    case round =>
     clear H'
     try clear c1
     try clear c2
     try clear p2
     try clear c6
     try clear c11
     try clear c14
     try clear p2
     obtain ⟨x6_2,x22_2,rfl,HA,HK2,HO_6,HB,HLC⟩:=hrel
     cases gk with
     |zero => exact absurd HA.out (by simp [impl_MeetSets.l0])
     |succ k2 =>
      have H:=HA.out
      clear HA
      simp only [impl_MeetSets.l0] at H
      by_cases c16 : x22_2 < (l2.length : Int)
      ·rw [if_pos c16] at H
       have c16b0 : decide (x22_2 < (l2.length : Int)) = true:=decide_eq_true c16
       clear c16
       by_cases c17 : 0 ≤ x22_2
       ·rw [if_pos c17] at H
        have c17b0 : decide (0 ≤ x22_2) = true:=decide_eq_true c17
        clear c17
        by_cases c18 : x22_2 < (l2.length : Int)
        ·rw [if_pos c18] at H
         have c18b0 : decide (x22_2 < (l2.length : Int)) = true:=decide_eq_true c18
         clear c18
         replace H:=Option.bind_eq_some_iff.mp H
         obtain ⟨t218,A190,H⟩:=H
         replace H : (if t218 = true then (if x6_2.length < 140737488355328 then (impl_MeetSets.l0 k2 a1 (x6_2 ++ [rd l2 x22_2]) l2 (l2.length : Int) (wrap64 (x22_2 + 1))) else (none)) else (impl_MeetSets.l0 k2 a1 x6_2 l2 (l2.length : Int) (wrap64 (x22_2 + 1)))) = some (r1,r2):=H
         have A19:=zm_ A190
         clear A190
         by_cases c20 : t218 = true
         ·subst c20
          have H1 : (if x6_2.length < 140737488355328 then (impl_MeetSets.l0 k2 a1 (x6_2 ++ [rd l2 x22_2]) l2 (l2.length : Int) (wrap64 (x22_2 + 1))) else (none)) = some (r1,r2):=by rw [if_pos rfl] at H;exact H
          clear H
          have H:=H1
          clear H1
          by_cases c21 : x6_2.length < 140737488355328
          ·rw [if_pos c21] at H
           have LMc21:=zm_ c21
           clear c21
           obtain ⟨y219,hy219⟩ : ∃ y_ : List Int,y_ = (x6_2 ++ [rd l2 x22_2]):=⟨_,rfl⟩
           replace H : (impl_MeetSets.l0 k2 a1 y219 l2 (l2.length : Int) (wrap64 (x22_2 + 1))) = some (r1,r2):=by first|(rw [hy219];with_reducible exact H)|(have H2_:=(Option.bind_some _ _).symm.trans H;rw [hy219];with_reducible exact H2_)|(have H2_:=(Option.bind_some _ _).symm.trans H;with_reducible exact H2_)|with_reducible exact H|(rw [hy219];exact H)|exact H
           have Ny219:=zm_ hy219
           clear hy219
           have H':=zm_ H
           clear H
           have p217 : 0 ≤ (x22_2 : Int):=zo_
           have q217 : x22_2 < (l2.length : Int):=zo_
           obtain ⟨ad217,e217,hx217_0⟩:=Kd.at_int HLC.out x22_2 p217 q217
           cases e217
           have hlt_:=zb_ _ _ hx217_0
           rw [add_block] at hlt_
           have HLT:=zm_ hlt_
           clear hlt_
           replace p217:=eq_true p217
           replace q217:=eq_true q217
           go_wp2_with (first|((with_reducible refine gate_callee (f:=16) rfl ?_);refine goesL_ (some 28) rfl rfl Try.func16 (by kernel_rfl) rfl #[.string a1,.int .u8 (rd l2 x22_2)] rfl zq_ ?_;(with_reducible refine (impl_InSet.calls k2 a1 (rd l2 x22_2) true _ A19.out).mono ?_);rintro e w22 ⟨rfl,hb⟩;refine ⟨_,rfl,?_⟩;have n9_:=zm_ (Kd.C_below HLC.out hb);clear HLC;have HLC:=n9_;clear n9_;have n8_:=zm_ (Nat.lt_of_lt_of_le HLT.out hb.size);clear HLT;have HLT:=n8_;clear n8_;have n0_:=zm_ (Kd.R_below (by (with_reducible repeat (first|apply Kd.R_alloc|apply Kd.R_drewN|apply Kd.R_drew));exact HO_6.out) hb);have n1_:=zm_ (below_step zB_ hb);clear HO_6;clear HB;have HO_6:=n0_;have HB:=n1_;clear n0_ n1_;(try clear hb))|((with_reducible refine gate_builtin (b:=.append) (xs:=#[.tmp 29,.tmp 31]) rfl ?_);at_builtin;refine Kd.R_append (Kd.int .u8) (w0:=w) w.heap.size rfl (.tmp 29) (.tmp 31) 29 5 (.int .u8 0) 1 rfl Try.underlying29 info5 rfl (by decide) (by omega) u6 x6_2 (rd l2 x22_2) [.int .u8 (rd l2 x22_2)] (fun k_ => k_ ≠ AD_.block) (fun _ => False) rfl rfl ?aP (fun _ hk => hk.elim) ?aF ?aO ?aB ?aS ?aL ?_;(case aP => exact rfl);(case aB => exact zB_);(case aF => exact (fun k_ hk_ => by have:=HLT.out;omega));(case aO => exact (by (with_reducible repeat (first|apply Kd.R_alloc|apply Kd.R_drewN|apply Kd.R_drew));exact HO_6.out));(case aS => exact (below_size zB_));(case aL => have:=LMc21.out;omega);intro v220 w23 ho hb hg hat;have n9_:=zm_ (Srt.C_grown HLC.out hg (fun h_ => HO_6.out.1 _ h_ rfl));clear HLC;have HLC:=n9_;clear n9_;clear HLT;rw [← Ny219.out] at ho;have n0_:=zm_ (hb);have n1_:=zm_ (ho);clear HB;clear HO_6;have HB:=n0_;have HO221:=n1_;clear n0_ n1_;clear ho hb hg hat))
           go_roundg k2
           case measure => have:=HJ3.out;have:=HK2.out;omega
           case rel => exact ⟨(y219),(wrap64 (x22_2 + 1)),zV_,H',⟨by have:=HJ3.out;have:=HK2.out;omega⟩,⟨by (with_reducible repeat (first|apply Kd.R_alloc|apply Kd.R_drewN|apply Kd.R_drew));exact HO221.out⟩,⟨by repeat (first|(with_reducible first|exact HB.out|apply za_|apply zn_|apply zd_)|exact HB.out)⟩,⟨HLC.out⟩⟩
          ·rw [if_neg c21] at H
           exact absurd H (by simp)
         ·replace c20:=Bool.eq_false_iff.mpr c20
          subst c20
          have H1 : (impl_MeetSets.l0 k2 a1 x6_2 l2 (l2.length : Int) (wrap64 (x22_2 + 1))) = some (r1,r2):=by rw [if_neg (show ¬ (false = true) by decide)] at H;exact H
          clear H
          have H:=H1
          clear H1
          have H':=zm_ H
          clear H
          have p217 : 0 ≤ (x22_2 : Int):=zo_
          have q217 : x22_2 < (l2.length : Int):=zo_
          obtain ⟨ad217,e217,hx217_0⟩:=Kd.at_int HLC.out x22_2 p217 q217
          cases e217
          have hlt_:=zb_ _ _ hx217_0
          rw [add_block] at hlt_
          have HLT:=zm_ hlt_
          clear hlt_
          replace p217:=eq_true p217
          replace q217:=eq_true q217
          go_wp2_with (first|((with_reducible refine gate_callee (f:=16) rfl ?_);refine goesL_ (some 28) rfl rfl Try.func16 (by kernel_rfl) rfl #[.string a1,.int .u8 (rd l2 x22_2)] rfl zq_ ?_;(with_reducible refine (impl_InSet.calls k2 a1 (rd l2 x22_2) false _ A19.out).mono ?_);rintro e w24 ⟨rfl,hb⟩;refine ⟨_,rfl,?_⟩;have n9_:=zm_ (Kd.C_below HLC.out hb);clear HLC;have HLC:=n9_;clear n9_;have n8_:=zm_ (Nat.lt_of_lt_of_le HLT.out hb.size);clear HLT;have HLT:=n8_;clear n8_;have n0_:=zm_ (Kd.R_below (by (with_reducible repeat (first|apply Kd.R_alloc|apply Kd.R_drewN|apply Kd.R_drew));exact HO_6.out) hb);have n1_:=zm_ (below_step zB_ hb);clear HO_6;clear HB;have HO_6:=n0_;have HB:=n1_;clear n0_ n1_;(try clear hb)))
          go_roundg k2
          case measure => have:=HJ3.out;have:=HK2.out;omega
          case rel => exact ⟨(x6_2),(wrap64 (x22_2 + 1)),zV_,H',⟨by have:=HJ3.out;have:=HK2.out;omega⟩,⟨by (with_reducible repeat (first|apply Kd.R_alloc|apply Kd.R_drewN|apply Kd.R_drew));exact HO_6.out⟩,⟨by repeat (first|(with_reducible first|exact HB.out|apply za_|apply zn_|apply zd_)|exact HB.out)⟩,⟨HLC.out⟩⟩
        ·rw [if_neg c18] at H
         exact absurd H (by simp)
       ·rw [if_neg c17] at H
        exact absurd H (by simp)
      ·rw [if_neg c16] at H
       have c16b0 : decide (x22_2 < (l2.length : Int)) = false:=decide_eq_false c16
       clear c16
       replace H:=Option.bind_eq_some_iff.mp H
       obtain ⟨⟨t222,t223⟩,A250,H⟩:=H
       replace H : (some (t222,t223)) = some (r1,r2):=H
       have A25:=zm_ A250
       clear A250
       simp only [Option.some.injEq,Prod.mk.injEq] at H
       obtain ⟨rfl,rfl⟩:=H
       have hcv26:=own_string (P:=Try.prog) Try.underlying29 Try.underlying5 Try.underlying9 (Kd.own_of_R HO_6.out)
       go_wp2_with (first|((with_reducible refine gate_callee (f:=20) rfl ?_);refine goesL_ (some 36) rfl rfl Try.func20 (by kernel_rfl) rfl #[.string (strOfNums x6_2)] rfl zq_ ?_;(with_reducible refine (impl_SetOf.calls k2 (strOfNums x6_2) t222 t223 _ A25.out).mono ?_);rintro e w27 ⟨rfl,hb⟩;refine ⟨_,rfl,?_⟩;have n0_:=zm_ (Kd.R_below (by (with_reducible repeat (first|apply Kd.R_alloc|apply Kd.R_drewN|apply Kd.R_drew));exact HO_6.out) hb);have n1_:=zm_ (below_step zB_ hb);clear HO_6;clear HB;have HO_6:=n0_;have HB:=n1_;clear n0_ n1_;(try clear hb)))
       go_ret2
       exact ⟨zE_,by repeat (first|(with_reducible first|exact HB.out|apply za_|apply zn_|apply zd_)|exact HB.out)⟩

def laws_big.f (l0 : List Int) : Option (Bool):=some (decide ((l0.length : Int) > 1048576))
set_option maxHeartbeats 8000000 in
set_option maxRecDepth 100000 in
theorem laws_big.calls (A0 : Option Addr) (c0 : Nat) (l0 : List Int) (r : Bool) (w : World) (hr0 : Kd.C (Kd.int .u8) w A0 l0.length l0) (hc0 : l0.length ≤ c0) (h : laws_big.f l0 = some r) :
  Calls Try.prog 25 #[.slice A0 l0.length c0] w fun e w' => e = .returned (.bool r) ∧ Drawn0 w w':=by
 have HR0:=zm_ hr0
 have HC0:=zm_ hc0
 clear hr0 hc0
 have H : (some (decide ((l0.length : Int) > 1048576))) = some r:=h
 clear h
 obtain rfl:=Option.some.inj H
 go_enter Try.func25,Try.ntmps25
 go_wp2
 go_ret
 exact ⟨by first|rfl|(simp;done)|(simp [*];done),by repeat (first|exact Drawn0.refl _|apply Drawn0.step)⟩

end Go.Proofs.Ytbkncnlehlldeaa.MFnSetsMet
