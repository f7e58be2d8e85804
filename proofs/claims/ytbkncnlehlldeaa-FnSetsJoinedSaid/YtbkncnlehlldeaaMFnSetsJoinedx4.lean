import Derived.Test.YtbkncnlehlldeaaMFnSetsJoinedx0
import Derived.Test.YtbkncnlehlldeaaMFnSetsJoinedx2
import Derived.Test.YtbkncnlehlldeaaMFnSetsJoinedx3
namespace Go.Proofs.Ytbkncnlehlldeaa.MFnSetsJoined
open Go.RowKit Go.Proofs.YtbkncnlehlldeaaW.PrintWords Go.Proofs.YtbkncnlehlldeaaW.PrintLast Go.Proofs.YtbkncnlehlldeaaW.PrintMore
attribute [local go_sem] max2_int min2_int max_two min_two max_three min_three max_four min_four
set_option linter.unusedVariables false
set_option linter.unusedSimpArgs false

def spec_JoinSets.j0 : Nat → ByteArray → ByteArray → Bool → Option (ByteArray × Bool)
 |0,_,_,_ => none
 |k + 1,x0,x1,x13 => if x13 = true then (some ((⟨#[]⟩ : ByteArray),false)) else ((spec_SetBytes.f k x0).bind fun t159 => ((spec_SetBytes.f k x1).bind fun t160 => (if t159.size + t160.size ≤ 9223372036854775807 then ((spec_SetOf.f k (t159 ++ t160)).bind fun bt161 => (some (bt161.1,bt161.2))) else (none))))
def spec_JoinSets.f (k : Nat) (a0 : ByteArray) (a1 : ByteArray) : Option (ByteArray × Bool):=(spec_SetOk.f k a0).bind fun t157 => (if t157 = true then ((spec_SetOk.f k a1).bind fun t158 => (spec_JoinSets.j0 k a0 a1 (!t158))) else (spec_JoinSets.j0 k a0 a1 true))
theorem spec_JoinSets.mono_l : ∀ k,(∀ y0 y1 y2,LeO (spec_JoinSets.j0 k y0 y1 y2) (spec_JoinSets.j0 (k + 1) y0 y1 y2))
 |0 => fun _ _ _ r h => by simp [spec_JoinSets.j0] at h
 |k + 1 => by
  have ih0:=spec_JoinSets.mono_l k
  ·intro y0 y1 y2
   unfold spec_JoinSets.j0
   repeat' first
   |(with_reducible exact ih0 _ _ _)
   |(with_reducible exact spec_SetBytes.mono _ _)
   |(with_reducible exact spec_SetOf.mono _ _)
   |(with_reducible exact spec_SetOk.mono _ _)
   |(with_reducible exact LeO.refl _)
   |(with_reducible exact LeO.none _)
   |(with_reducible refine LeO.ite ?_ ?_)
   |(with_reducible refine LeO.bind ?_ (fun _ => ?_))
theorem spec_JoinSets.mono : ∀ a0 a1 k,LeO (spec_JoinSets.f k a0 a1) (spec_JoinSets.f (k + 1) a0 a1):=by
 intro a0 a1 k
 have ih0:=spec_JoinSets.mono_l k
 unfold spec_JoinSets.f
 repeat' first
   |(with_reducible exact ih0 _ _ _)
   |(with_reducible exact spec_SetBytes.mono _ _)
   |(with_reducible exact spec_SetOf.mono _ _)
   |(with_reducible exact spec_SetOk.mono _ _)
   |(with_reducible exact LeO.refl _)
   |(with_reducible exact LeO.none _)
   |(with_reducible refine LeO.ite ?_ ?_)
   |(with_reducible refine LeO.bind ?_ (fun _ => ?_))
set_option maxHeartbeats 8000000 in
set_option maxRecDepth 100000 in
theorem spec_JoinSets.calls (k : Nat) (a0 : ByteArray) (a1 : ByteArray) (r1 : ByteArray) (r2 : Bool) (w : World) (h : spec_JoinSets.f k a0 a1 = some (r1,r2)) :
  Calls Try.prog 21 #[.string a0,.string a1] w fun e w' => e = .returned (.tuple #[.string r1,.bool r2]) ∧ Below w.heap.size w w':=by
 have HB:=zm_ (Below.refl w.heap.size w)
 have H : ((spec_SetOk.f k a0).bind fun t157 => (if t157 = true then ((spec_SetOk.f k a1).bind fun t158 => (spec_JoinSets.j0 k a0 a1 (!t158))) else (spec_JoinSets.j0 k a0 a1 true))) = some (r1,r2):=h
 clear h
 have HC3:=zm_ H
 clear H
 go_enter Try.func21,Try.ntmps21
 go_upto_region 1 with (fail)
 go_cut [13] (fun v13 wc => ∃ (kq : Nat) (x13_2 : Bool),v13 = .bool x13_2 ∧ Aside0 (spec_JoinSets.j0 kq a0 a1 x13_2 = some (r1,r2)) ∧ Aside0 (kq ≤ k) ∧ Aside0 (Below w.heap.size w wc))
 case first =>
  have H:=HC3.out
  clear HC3
  replace H:=Option.bind_eq_some_iff.mp H
  obtain ⟨t157,A40,H⟩:=H
  replace H : (if t157 = true then ((spec_SetOk.f k a1).bind fun t158 => (spec_JoinSets.j0 k a0 a1 (!t158))) else (spec_JoinSets.j0 k a0 a1 true)) = some (r1,r2):=H
  have A4:=zm_ A40
  clear A40
  by_cases c5 : t157 = true
  ·subst c5
   have H1 : ((spec_SetOk.f k a1).bind fun t158 => (spec_JoinSets.j0 k a0 a1 (!t158))) = some (r1,r2):=by rw [if_pos rfl] at H;exact H
   clear H
   have H:=H1
   clear H1
   replace H:=Option.bind_eq_some_iff.mp H
   obtain ⟨t158,A60,H⟩:=H
   replace H : (spec_JoinSets.j0 k a0 a1 (!t158)) = some (r1,r2):=H
   have A6:=zm_ A60
   clear A60
   have H':=zm_ H
   clear H
   go_wp2_with (first|((with_reducible refine gate_callee (f:=13) rfl ?_);refine goesL_ (some 7) rfl rfl Try.func13 (by kernel_rfl) rfl #[.string a0] rfl (by (try simp only [List.map_toArray,List.map_cons,List.map_nil]);first|done|rfl|(simp only [List.length_drop,List.length_take];rfl)) ?_;(with_reducible refine (spec_SetOk.calls k a0 true _ A4.out).mono ?_);rintro e w7 ⟨rfl,hb⟩;refine ⟨_,rfl,?_⟩;have n0_:=zm_ (below_step (by repeat (first|(with_reducible first|exact HB.out|apply za_|apply zn_|apply zd_)|exact HB.out)) hb);clear HB;have HB:=n0_;clear n0_;(try clear hb);(try clear hb2);(try clear hk);(try clear hi))|(go_at_call 13;(with_reducible refine (spec_SetOk.calls k a1 t158 _ A6.out).mono ?_);rintro e w8 ⟨rfl,hb⟩;have n0_:=zm_ (below_step (by repeat (first|(with_reducible first|exact HB.out|apply za_|apply zn_|apply zd_)|exact HB.out)) hb);clear HB;have HB:=n0_;clear n0_;(try clear hb);(try clear hb2);(try clear hk);(try clear hi)))
   go_meet
   case rel => exact ⟨_,(!t158),(by first|rfl|(exact congrArg Value.bool (isEmpty_ne _))|(exact congrArg Value.bool (isEmpty_ne' _))|(exact congrArg Value.bool (isEmpty_eq _))|(simp;done)|(simp [*];done)),H',⟨by first|omega|exact Nat.le_refl _⟩,⟨by repeat (first|(with_reducible first|exact HB.out|apply za_|apply zn_|apply zd_)|exact HB.out)⟩⟩
  ·replace c5:=Bool.eq_false_iff.mpr c5
   subst c5
   have H1 : (spec_JoinSets.j0 k a0 a1 true) = some (r1,r2):=by rw [if_neg (show ¬ (false = true) by decide)] at H;exact H
   clear H
   have H:=H1
   clear H1
   have H':=zm_ H
   clear H
   go_wp2_with (first|((with_reducible refine gate_callee (f:=13) rfl ?_);refine goesL_ (some 7) rfl rfl Try.func13 (by kernel_rfl) rfl #[.string a0] rfl (by (try simp only [List.map_toArray,List.map_cons,List.map_nil]);first|done|rfl|(simp only [List.length_drop,List.length_take];rfl)) ?_;(with_reducible refine (spec_SetOk.calls k a0 false _ A4.out).mono ?_);rintro e w9 ⟨rfl,hb⟩;refine ⟨_,rfl,?_⟩;have n0_:=zm_ (below_step (by repeat (first|(with_reducible first|exact HB.out|apply za_|apply zn_|apply zd_)|exact HB.out)) hb);clear HB;have HB:=n0_;clear n0_;(try clear hb);(try clear hb2);(try clear hk);(try clear hi)))
   go_meet
   case rel => exact ⟨_,(true),(by first|rfl|(exact congrArg Value.bool (isEmpty_ne _))|(exact congrArg Value.bool (isEmpty_ne' _))|(exact congrArg Value.bool (isEmpty_eq _))|(simp;done)|(simp [*];done)),H',⟨by first|omega|exact Nat.le_refl _⟩,⟨by repeat (first|(with_reducible first|exact HB.out|apply za_|apply zn_|apply zd_)|exact HB.out)⟩⟩
 case rest =>
  clear HC3
  try clear c1
  try clear c2
  try clear p2
  try clear c5
  obtain ⟨kq,x13_2,rfl,HA,HJ2,HB⟩:=hcut
  cases kq with
  |zero => exact absurd HA.out (by simp [spec_JoinSets.j0])
  |succ kj2 =>
   have H:=HA.out
   clear HA
   simp only [spec_JoinSets.j0] at H
   by_cases c10 : x13_2 = true
   ·subst c10
    have H1 : (some ((⟨#[]⟩ : ByteArray),false)) = some (r1,r2):=by rw [if_pos rfl] at H;exact H
    clear H
    have H:=H1
    clear H1
    simp only [Option.some.injEq,Prod.mk.injEq] at H
    obtain ⟨rfl,rfl⟩:=H
    go_wp2
    go_ret2
    exact ⟨by first|rfl|(simp [errW_none,errW_some] <;> rfl)|(simp [*,errW_none,errW_some] <;> rfl),by repeat (first|(with_reducible first|exact HB.out|apply za_|apply zn_|apply zd_)|exact HB.out)⟩
   ·replace c10:=Bool.eq_false_iff.mpr c10
    subst c10
    have H1 : ((spec_SetBytes.f kj2 a0).bind fun t159 => ((spec_SetBytes.f kj2 a1).bind fun t160 => (if t159.size + t160.size ≤ 9223372036854775807 then ((spec_SetOf.f kj2 (t159 ++ t160)).bind fun bt161 => (some (bt161.1,bt161.2))) else (none)))) = some (r1,r2):=by rw [if_neg (show ¬ (false = true) by decide)] at H;exact H
    clear H
    have H:=H1
    clear H1
    replace H:=Option.bind_eq_some_iff.mp H
    obtain ⟨t159,A110,H⟩:=H
    replace H : ((spec_SetBytes.f kj2 a1).bind fun t160 => (if t159.size + t160.size ≤ 9223372036854775807 then ((spec_SetOf.f kj2 (t159 ++ t160)).bind fun bt161 => (some (bt161.1,bt161.2))) else (none))) = some (r1,r2):=H
    have A11:=zm_ A110
    clear A110
    replace H:=Option.bind_eq_some_iff.mp H
    obtain ⟨t160,A120,H⟩:=H
    replace H : (if t159.size + t160.size ≤ 9223372036854775807 then ((spec_SetOf.f kj2 (t159 ++ t160)).bind fun bt161 => (some (bt161.1,bt161.2))) else (none)) = some (r1,r2):=H
    have A12:=zm_ A120
    clear A120
    by_cases c13 : t159.size + t160.size ≤ 9223372036854775807
    ·rw [if_pos c13] at H
     have c13b0:=eq_true c13
     have c13b1 : decide (t159.size + t160.size ≤ 9223372036854775807) = true:=decide_eq_true c13
     try have c13b2 : (9223372036854775807 < t159.size + t160.size) = False:=eq_false (Nat.not_lt.2 c13)
     replace H:=Option.bind_eq_some_iff.mp H
     obtain ⟨⟨t161,t162⟩,A140,H⟩:=H
     replace H : (some (t161,t162)) = some (r1,r2):=H
     have A14:=zm_ A140
     clear A140
     simp only [Option.some.injEq,Prod.mk.injEq] at H
     obtain ⟨rfl,rfl⟩:=H
     go_wp2_with (first|((with_reducible refine gate_callee (f:=17) rfl ?_);refine goesL_ (some 15) rfl rfl Try.func17 (by kernel_rfl) rfl #[.string a0] rfl (by (try simp only [List.map_toArray,List.map_cons,List.map_nil]);first|done|rfl|(simp only [List.length_drop,List.length_take];rfl)) ?_;(with_reducible refine (spec_SetBytes.calls kj2 a0 t159 _ A11.out).mono ?_);rintro e w15 ⟨rfl,hb⟩;refine ⟨_,rfl,?_⟩;have n0_:=zm_ (below_step (by repeat (first|(with_reducible first|exact HB.out|apply za_|apply zn_|apply zd_)|exact HB.out)) hb);clear HB;have HB:=n0_;clear n0_;(try clear hb);(try clear hb2);(try clear hk);(try clear hi))|((with_reducible refine gate_callee (f:=17) rfl ?_);refine goesL_ (some 17) rfl rfl Try.func17 (by kernel_rfl) rfl #[.string a1] rfl (by (try simp only [List.map_toArray,List.map_cons,List.map_nil]);first|done|rfl|(simp only [List.length_drop,List.length_take];rfl)) ?_;(with_reducible refine (spec_SetBytes.calls kj2 a1 t160 _ A12.out).mono ?_);rintro e w16 ⟨rfl,hb⟩;refine ⟨_,rfl,?_⟩;have n0_:=zm_ (below_step (by repeat (first|(with_reducible first|exact HB.out|apply za_|apply zn_|apply zd_)|exact HB.out)) hb);clear HB;have HB:=n0_;clear n0_;(try clear hb);(try clear hb2);(try clear hk);(try clear hi))|((with_reducible refine gate_callee (f:=19) rfl ?_);refine goesL_ (some 19) rfl rfl Try.func19 (by kernel_rfl) rfl #[.string (t159 ++ t160)] rfl (by (try simp only [List.map_toArray,List.map_cons,List.map_nil]);first|done|rfl|(simp only [List.length_drop,List.length_take];rfl)) ?_;(with_reducible refine (spec_SetOf.calls kj2 (t159 ++ t160) t161 t162 _ A14.out).mono ?_);rintro e w17 ⟨rfl,hb⟩;refine ⟨_,rfl,?_⟩;have n0_:=zm_ (below_step (by repeat (first|(with_reducible first|exact HB.out|apply za_|apply zn_|apply zd_)|exact HB.out)) hb);clear HB;have HB:=n0_;clear n0_;(try clear hb);(try clear hb2);(try clear hk);(try clear hi)))
     go_ret2
     exact ⟨by first|rfl|(simp [errW_none,errW_some] <;> rfl)|(simp [*,errW_none,errW_some] <;> rfl),by repeat (first|(with_reducible first|exact HB.out|apply za_|apply zn_|apply zd_)|exact HB.out)⟩
    ·rw [if_neg c13] at H
     exact absurd H (by simp)

def impl_SetOk.f (k : Nat) (a0 : ByteArray) : Option (Bool):=(impl_readSet.f k a0).bind fun bt163 => (some bt163.2)
theorem impl_SetOk.mono : ∀ a0 k,LeO (impl_SetOk.f k a0) (impl_SetOk.f (k + 1) a0):=by
 intro a0 k
 unfold impl_SetOk.f
 repeat' first
   |(with_reducible exact impl_readSet.mono _ _)
   |(with_reducible exact LeO.refl _)
   |(with_reducible exact LeO.none _)
   |(with_reducible refine LeO.ite ?_ ?_)
   |(with_reducible refine LeO.bind ?_ (fun _ => ?_))
set_option maxHeartbeats 8000000 in
set_option maxRecDepth 100000 in
theorem impl_SetOk.calls (k : Nat) (a0 : ByteArray) (r : Bool) (w : World) (h : impl_SetOk.f k a0 = some r) :
  Calls Try.prog 14 #[.string a0] w fun e w' => e = .returned (.bool r) ∧ Below w.heap.size w w':=by
 have HB:=zm_ (Below.refl w.heap.size w)
 have H : ((impl_readSet.f k a0).bind fun bt163 => (some bt163.2)) = some r:=h
 clear h
 replace H:=Option.bind_eq_some_iff.mp H
 obtain ⟨⟨t163,t164⟩,A20,H⟩:=H
 replace H : (some t164) = some r:=H
 have A2:=zm_ A20
 clear A20
 obtain rfl:=Option.some.inj H
 go_enter Try.func14,Try.ntmps14
 go_wp2_with (first|((with_reducible refine gate_callee (f:=33) rfl ?_);refine goesL_ (some 7) rfl rfl Try.func33 (by kernel_rfl) rfl #[.string a0] rfl (by (try simp only [List.map_toArray,List.map_cons,List.map_nil]);first|done|rfl|(simp only [List.length_drop,List.length_take];rfl)) ?_;(with_reducible refine (impl_readSet.calls k a0 t163 t164 _ A2.out).mono ?_);rintro e w3 ⟨v165,rfl,ho0,hb⟩;refine ⟨_,rfl,?_⟩;have n0_:=zm_ (Kd.R_lower ho0 (below_size (by repeat (first|(with_reducible first|exact HB.out|apply za_|apply zn_|apply zd_)|exact HB.out))));have n1_:=zm_ (below_step (by repeat (first|(with_reducible first|exact HB.out|apply za_|apply zn_|apply zd_)|exact HB.out)) hb);clear HB;have HO166:=n0_;have HB:=n1_;clear n0_ n1_;(try clear hb);(try clear hb2);(try clear hk);(try clear hi);(try clear ho0)))
 go_ret
 exact ⟨by first|rfl|(simp [errW_none,errW_some] <;> rfl)|(simp [*,errW_none,errW_some] <;> rfl),by repeat (first|(with_reducible first|exact HB.out|apply za_|apply zn_|apply zd_)|exact HB.out)⟩

end Go.Proofs.Ytbkncnlehlldeaa.MFnSetsJoined
