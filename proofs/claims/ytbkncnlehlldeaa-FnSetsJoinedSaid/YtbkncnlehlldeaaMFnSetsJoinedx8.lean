import Derived.Test.YtbkncnlehlldeaaMFnSetsJoinedx0
import Derived.Test.YtbkncnlehlldeaaMFnSetsJoinedx1
import Derived.Test.YtbkncnlehlldeaaMFnSetsJoinedx2
import Derived.Test.YtbkncnlehlldeaaMFnSetsJoinedx4
import Derived.Test.YtbkncnlehlldeaaMFnSetsJoinedx6
import Derived.Test.YtbkncnlehlldeaaMFnSetsJoinedx7
namespace Go.Proofs.Ytbkncnlehlldeaa.MFnSetsJoined
open Go.RowKit Go.Proofs.YtbkncnlehlldeaaW.PrintWords Go.Proofs.YtbkncnlehlldeaaW.PrintLast Go.Proofs.YtbkncnlehlldeaaW.PrintMore
attribute [local go_sem] max2_int min2_int max_two min_two max_three min_three max_four min_four
set_option linter.unusedVariables false
set_option linter.unusedSimpArgs false

mutual
def laws_FnSetsJoined.j0 : Nat → ByteArray → ByteArray → ByteArray → Bool → ByteArray → Bool → Bool → Option (Bool)
 |0,_,_,_,_,_,_,_ => none
 |k + 1,x3,x4,x5,x6,x7,x8,x57 => if x57 = true then (some false) else (laws_FnSetsJoined.l0 k x3 x4 x5 x6 x7 x8 false 48)
def laws_FnSetsJoined.l0 : Nat → ByteArray → ByteArray → ByteArray → Bool → ByteArray → Bool → Bool → Int → Option (Bool)
 |0,_,_,_,_,_,_,_,_ => none
 |k + 1,x3,x4,x5,x6,x7,x8,x13,x14 => if x14 < 123 then ((spec_InSet.f k x3 ((x14) % 256)).bind fun t276 => ((spec_InSet.f k x4 ((x14) % 256)).bind fun t277 => (if x6 = true then ((impl_InSet.f k x5 ((x14) % 256)).bind fun t278 => (if t276 = true then (if (t278 != true) = true then (some false) else (if x8 = true then ((impl_InSet.f k x7 ((x14) % 256)).bind fun t279 => (if (t279 != t277) = true then (some false) else (if x13 = true then (laws_FnSetsJoined.l0 k x3 x4 x5 x6 x7 x8 true (wrap64 (x14 + 1))) else (laws_FnSetsJoined.l0 k x3 x4 x5 x6 x7 x8 t277 (wrap64 (x14 + 1)))))) else (if x13 = true then (laws_FnSetsJoined.l0 k x3 x4 x5 x6 x7 x8 true (wrap64 (x14 + 1))) else (laws_FnSetsJoined.l0 k x3 x4 x5 x6 x7 x8 t277 (wrap64 (x14 + 1)))))) else (if (t278 != t277) = true then (some false) else (if x8 = true then ((impl_InSet.f k x7 ((x14) % 256)).bind fun t280 => (if (t280 != false) = true then (some false) else (if x13 = true then (laws_FnSetsJoined.l0 k x3 x4 x5 x6 x7 x8 true (wrap64 (x14 + 1))) else (laws_FnSetsJoined.l0 k x3 x4 x5 x6 x7 x8 false (wrap64 (x14 + 1)))))) else (if x13 = true then (laws_FnSetsJoined.l0 k x3 x4 x5 x6 x7 x8 true (wrap64 (x14 + 1))) else (laws_FnSetsJoined.l0 k x3 x4 x5 x6 x7 x8 false (wrap64 (x14 + 1)))))))) else (if x8 = true then ((impl_InSet.f k x7 ((x14) % 256)).bind fun t281 => (if t276 = true then (if (t281 != t277) = true then (some false) else (if x13 = true then (laws_FnSetsJoined.l0 k x3 x4 x5 x6 x7 x8 true (wrap64 (x14 + 1))) else (laws_FnSetsJoined.l0 k x3 x4 x5 x6 x7 x8 t277 (wrap64 (x14 + 1))))) else (if (t281 != false) = true then (some false) else (if x13 = true then (laws_FnSetsJoined.l0 k x3 x4 x5 x6 x7 x8 true (wrap64 (x14 + 1))) else (laws_FnSetsJoined.l0 k x3 x4 x5 x6 x7 x8 false (wrap64 (x14 + 1))))))) else (if x13 = true then (laws_FnSetsJoined.l0 k x3 x4 x5 x6 x7 x8 true (wrap64 (x14 + 1))) else (if t276 = true then (laws_FnSetsJoined.l0 k x3 x4 x5 x6 x7 x8 t277 (wrap64 (x14 + 1))) else (laws_FnSetsJoined.l0 k x3 x4 x5 x6 x7 x8 false (wrap64 (x14 + 1))))))))) else ((impl_JoinSets.f k x4 x3).bind fun bt274 => (if x13 = true then (if (x6 == bt274.2) = true then (some (x5.toList == bt274.1.toList)) else (some false)) else (if x8 = true then (some false) else (if (x6 == bt274.2) = true then (some (x5.toList == bt274.1.toList)) else (some false)))))
end
def laws_FnSetsJoined.f (k : Nat) (l0 : List Int) : Option (Bool):=(laws_big.f l0).bind fun t263 => (if t263 = true then (some true) else ((spec_DrawSets.f k l0).bind fun bt264 => ((impl_JoinSets.f k bt264.1 bt264.2).bind fun bt266 => ((impl_MeetSets.f k bt264.1 bt264.2).bind fun bt268 => ((spec_JoinSets.f k bt264.1 bt264.2).bind fun bt270 => ((spec_MeetSets.f k bt264.1 bt264.2).bind fun bt272 => (if (bt266.2 != bt270.2) = true then (laws_FnSetsJoined.j0 k bt264.1 bt264.2 bt266.1 bt266.2 bt268.1 bt268.2 true) else (laws_FnSetsJoined.j0 k bt264.1 bt264.2 bt266.1 bt266.2 bt268.1 bt268.2 (bt268.2 != bt272.2)))))))))
theorem laws_FnSetsJoined.mono_l : ∀ k,(∀ y0 y1 y2 y3 y4 y5 y6,LeO (laws_FnSetsJoined.j0 k y0 y1 y2 y3 y4 y5 y6) (laws_FnSetsJoined.j0 (k + 1) y0 y1 y2 y3 y4 y5 y6)) ∧ (∀ y0 y1 y2 y3 y4 y5 y6 y7,LeO (laws_FnSetsJoined.l0 k y0 y1 y2 y3 y4 y5 y6 y7) (laws_FnSetsJoined.l0 (k + 1) y0 y1 y2 y3 y4 y5 y6 y7))
 |0 => ⟨fun _ _ _ _ _ _ _ r h => by simp [laws_FnSetsJoined.j0] at h,fun _ _ _ _ _ _ _ _ r h => by simp [laws_FnSetsJoined.l0] at h⟩
 |k + 1 => by
  obtain ⟨ih0,ih1⟩:=laws_FnSetsJoined.mono_l k
  refine ⟨?_,?_⟩
  ·intro y0 y1 y2 y3 y4 y5 y6
   unfold laws_FnSetsJoined.j0
   repeat' first
   |(with_reducible exact ih0 _ _ _ _ _ _ _)
   |(with_reducible exact ih1 _ _ _ _ _ _ _ _)
   |(with_reducible exact impl_InSet.mono _ _ _)
   |(with_reducible exact impl_JoinSets.mono _ _ _)
   |(with_reducible exact impl_MeetSets.mono _ _ _)
   |(with_reducible exact spec_DrawSets.mono _ _)
   |(with_reducible exact spec_InSet.mono _ _ _)
   |(with_reducible exact spec_JoinSets.mono _ _ _)
   |(with_reducible exact spec_MeetSets.mono _ _ _)
   |(with_reducible exact LeO.refl _)
   |(with_reducible exact LeO.none _)
   |(with_reducible refine LeO.ite ?_ ?_)
   |(with_reducible refine LeO.bind ?_ (fun _ => ?_))
  ·intro y0 y1 y2 y3 y4 y5 y6 y7
   unfold laws_FnSetsJoined.l0
   repeat' first
   |(with_reducible exact ih0 _ _ _ _ _ _ _)
   |(with_reducible exact ih1 _ _ _ _ _ _ _ _)
   |(with_reducible exact impl_InSet.mono _ _ _)
   |(with_reducible exact impl_JoinSets.mono _ _ _)
   |(with_reducible exact impl_MeetSets.mono _ _ _)
   |(with_reducible exact spec_DrawSets.mono _ _)
   |(with_reducible exact spec_InSet.mono _ _ _)
   |(with_reducible exact spec_JoinSets.mono _ _ _)
   |(with_reducible exact spec_MeetSets.mono _ _ _)
   |(with_reducible exact LeO.refl _)
   |(with_reducible exact LeO.none _)
   |(with_reducible refine LeO.ite ?_ ?_)
   |(with_reducible refine LeO.bind ?_ (fun _ => ?_))
theorem laws_FnSetsJoined.mono : ∀ a0 k,LeO (laws_FnSetsJoined.f k a0) (laws_FnSetsJoined.f (k + 1) a0):=by
 intro a0 k
 obtain ⟨ih0,ih1⟩:=laws_FnSetsJoined.mono_l k
 unfold laws_FnSetsJoined.f
 repeat' first
   |(with_reducible exact ih0 _ _ _ _ _ _ _)
   |(with_reducible exact ih1 _ _ _ _ _ _ _ _)
   |(with_reducible exact impl_InSet.mono _ _ _)
   |(with_reducible exact impl_JoinSets.mono _ _ _)
   |(with_reducible exact impl_MeetSets.mono _ _ _)
   |(with_reducible exact spec_DrawSets.mono _ _)
   |(with_reducible exact spec_InSet.mono _ _ _)
   |(with_reducible exact spec_JoinSets.mono _ _ _)
   |(with_reducible exact spec_MeetSets.mono _ _ _)
   |(with_reducible exact LeO.refl _)
   |(with_reducible exact LeO.none _)
   |(with_reducible refine LeO.ite ?_ ?_)
   |(with_reducible refine LeO.bind ?_ (fun _ => ?_))
set_option maxHeartbeats 8000000 in
set_option maxRecDepth 100000 in
theorem laws_FnSetsJoined.calls (k : Nat) (A0 : Option Addr) (c0 : Nat) (l0 : List Int) (r : Bool) (w : World) (hr0 : Kd.C (Kd.int .u8) w A0 l0.length l0) (hc0 : l0.length ≤ c0) (h : laws_FnSetsJoined.f k l0 = some r) :
  Calls Try.prog 11 #[.slice A0 l0.length c0] w fun e w' => e = .returned (.bool r) ∧ Below w.heap.size w w':=by
 have HR0:=zm_ hr0
 have HC0:=zm_ hc0
 clear hr0 hc0
 have HB:=zm_ (Below.refl w.heap.size w)
 have H : ((laws_big.f l0).bind fun t263 => (if t263 = true then (some true) else ((spec_DrawSets.f k l0).bind fun bt264 => ((impl_JoinSets.f k bt264.1 bt264.2).bind fun bt266 => ((impl_MeetSets.f k bt264.1 bt264.2).bind fun bt268 => ((spec_JoinSets.f k bt264.1 bt264.2).bind fun bt270 => ((spec_MeetSets.f k bt264.1 bt264.2).bind fun bt272 => (if (bt266.2 != bt270.2) = true then (laws_FnSetsJoined.j0 k bt264.1 bt264.2 bt266.1 bt266.2 bt268.1 bt268.2 true) else (laws_FnSetsJoined.j0 k bt264.1 bt264.2 bt266.1 bt266.2 bt268.1 bt268.2 (bt268.2 != bt272.2)))))))))) = some r:=h
 clear h
 replace H:=Option.bind_eq_some_iff.mp H
 obtain ⟨t263,A20,H⟩:=H
 replace H : (if t263 = true then (some true) else ((spec_DrawSets.f k l0).bind fun bt264 => ((impl_JoinSets.f k bt264.1 bt264.2).bind fun bt266 => ((impl_MeetSets.f k bt264.1 bt264.2).bind fun bt268 => ((spec_JoinSets.f k bt264.1 bt264.2).bind fun bt270 => ((spec_MeetSets.f k bt264.1 bt264.2).bind fun bt272 => (if (bt266.2 != bt270.2) = true then (laws_FnSetsJoined.j0 k bt264.1 bt264.2 bt266.1 bt266.2 bt268.1 bt268.2 true) else (laws_FnSetsJoined.j0 k bt264.1 bt264.2 bt266.1 bt266.2 bt268.1 bt268.2 (bt268.2 != bt272.2))))))))) = some r:=H
 have A2:=zm_ A20
 clear A20
 by_cases c3 : t263 = true
 ·subst c3
  have H1 : (some true) = some r:=by rw [if_pos rfl] at H;exact H
  clear H
  have H:=H1
  clear H1
  obtain rfl:=Option.some.inj H
  go_enter Try.func11,Try.ntmps11
  go_wp2_with (first|((with_reducible refine gate_callee (f:=25) rfl ?_);refine goesL_ (some 20) rfl rfl Try.func25 (by kernel_rfl) rfl #[.slice A0 l0.length c0] rfl (by (try simp only [List.map_toArray,List.map_cons,List.map_nil]);first|done|rfl|(simp only [List.length_drop,List.length_take];rfl)) ?_;(with_reducible refine (laws_big.calls _ _ l0 true _ ?side1 ?side2 A2.out).mono ?_);(case side1 => repeat (first|exact HR0.out|(with_reducible refine Kd.C_alloc ?_ _)|(with_reducible refine Kd.C_drewN ?_ _)|(with_reducible refine Kd.C_drew ?_)));(case side2 => exact HC0.out);rintro e w' ⟨rfl,⟨nd,rfl⟩⟩;refine ⟨_,rfl,?_⟩))
  go_ret
  exact ⟨by first|rfl|(simp [errW_none,errW_some] <;> rfl)|(simp [*,errW_none,errW_some] <;> rfl),by repeat (first|(with_reducible first|exact HB.out|apply za_|apply zn_|apply zd_)|exact HB.out)⟩
 ·replace c3:=Bool.eq_false_iff.mpr c3
  subst c3
  have H1 : ((spec_DrawSets.f k l0).bind fun bt264 => ((impl_JoinSets.f k bt264.1 bt264.2).bind fun bt266 => ((impl_MeetSets.f k bt264.1 bt264.2).bind fun bt268 => ((spec_JoinSets.f k bt264.1 bt264.2).bind fun bt270 => ((spec_MeetSets.f k bt264.1 bt264.2).bind fun bt272 => (if (bt266.2 != bt270.2) = true then (laws_FnSetsJoined.j0 k bt264.1 bt264.2 bt266.1 bt266.2 bt268.1 bt268.2 true) else (laws_FnSetsJoined.j0 k bt264.1 bt264.2 bt266.1 bt266.2 bt268.1 bt268.2 (bt268.2 != bt272.2)))))))) = some r:=by rw [if_neg (show ¬ (false = true) by decide)] at H;exact H
  clear H
  have H:=H1
  clear H1
  replace H:=Option.bind_eq_some_iff.mp H
  obtain ⟨⟨t264,t265⟩,A40,H⟩:=H
  replace H : ((impl_JoinSets.f k t264 t265).bind fun bt266 => ((impl_MeetSets.f k t264 t265).bind fun bt268 => ((spec_JoinSets.f k t264 t265).bind fun bt270 => ((spec_MeetSets.f k t264 t265).bind fun bt272 => (if (bt266.2 != bt270.2) = true then (laws_FnSetsJoined.j0 k t264 t265 bt266.1 bt266.2 bt268.1 bt268.2 true) else (laws_FnSetsJoined.j0 k t264 t265 bt266.1 bt266.2 bt268.1 bt268.2 (bt268.2 != bt272.2))))))) = some r:=H
  have A4:=zm_ A40
  clear A40
  replace H:=Option.bind_eq_some_iff.mp H
  obtain ⟨⟨t266,t267⟩,A50,H⟩:=H
  replace H : ((impl_MeetSets.f k t264 t265).bind fun bt268 => ((spec_JoinSets.f k t264 t265).bind fun bt270 => ((spec_MeetSets.f k t264 t265).bind fun bt272 => (if (t267 != bt270.2) = true then (laws_FnSetsJoined.j0 k t264 t265 t266 t267 bt268.1 bt268.2 true) else (laws_FnSetsJoined.j0 k t264 t265 t266 t267 bt268.1 bt268.2 (bt268.2 != bt272.2)))))) = some r:=H
  have A5:=zm_ A50
  clear A50
  replace H:=Option.bind_eq_some_iff.mp H
  obtain ⟨⟨t268,t269⟩,A60,H⟩:=H
  replace H : ((spec_JoinSets.f k t264 t265).bind fun bt270 => ((spec_MeetSets.f k t264 t265).bind fun bt272 => (if (t267 != bt270.2) = true then (laws_FnSetsJoined.j0 k t264 t265 t266 t267 t268 t269 true) else (laws_FnSetsJoined.j0 k t264 t265 t266 t267 t268 t269 (t269 != bt272.2))))) = some r:=H
  have A6:=zm_ A60
  clear A60
  replace H:=Option.bind_eq_some_iff.mp H
  obtain ⟨⟨t270,t271⟩,A70,H⟩:=H
  replace H : ((spec_MeetSets.f k t264 t265).bind fun bt272 => (if (t267 != t271) = true then (laws_FnSetsJoined.j0 k t264 t265 t266 t267 t268 t269 true) else (laws_FnSetsJoined.j0 k t264 t265 t266 t267 t268 t269 (t269 != bt272.2)))) = some r:=H
  have A7:=zm_ A70
  clear A70
  replace H:=Option.bind_eq_some_iff.mp H
  obtain ⟨⟨t272,t273⟩,A80,H⟩:=H
  replace H : (if (t267 != t271) = true then (laws_FnSetsJoined.j0 k t264 t265 t266 t267 t268 t269 true) else (laws_FnSetsJoined.j0 k t264 t265 t266 t267 t268 t269 (t269 != t273))) = some r:=H
  have A8:=zm_ A80
  clear A80
  have HC9:=zm_ H
  clear H
  go_enter Try.func11,Try.ntmps11
  go_upto_region 8 with (first|((with_reducible refine gate_callee (f:=25) rfl ?_);refine goesL_ (some 20) rfl rfl Try.func25 (by kernel_rfl) rfl #[.slice A0 l0.length c0] rfl (by (try simp only [List.map_toArray,List.map_cons,List.map_nil]);first|done|rfl|(simp only [List.length_drop,List.length_take];rfl)) ?_;(with_reducible refine (laws_big.calls _ _ l0 false _ ?side1 ?side2 A2.out).mono ?_);(case side1 => repeat (first|exact HR0.out|(with_reducible refine Kd.C_alloc ?_ _)|(with_reducible refine Kd.C_drewN ?_ _)|(with_reducible refine Kd.C_drew ?_)));(case side2 => exact HC0.out);rintro e w' ⟨rfl,⟨nd,rfl⟩⟩;refine ⟨_,rfl,?_⟩)|((with_reducible refine gate_callee (f:=26) rfl ?_);refine goesL_ (some 23) rfl rfl Try.func26 (by kernel_rfl) rfl #[.slice A0 l0.length c0] rfl (by (try simp only [List.map_toArray,List.map_cons,List.map_nil]);first|done|rfl|(simp only [List.length_drop,List.length_take];rfl)) ?_;(with_reducible refine (spec_DrawSets.calls k _ _ l0 t264 t265 _ ?side1 ?side2 A4.out).mono ?_);(case side1 => repeat (first|exact HR0.out|(with_reducible refine Kd.C_alloc ?_ _)|(with_reducible refine Kd.C_drewN ?_ _)|(with_reducible refine Kd.C_drew ?_)));(case side2 => exact HC0.out);rintro e w10 ⟨rfl,hb⟩;refine ⟨_,rfl,?_⟩;have n0_:=zm_ (below_step (by repeat (first|(with_reducible first|exact HB.out|apply za_|apply zn_|apply zd_)|exact HB.out)) hb);clear HB;have HB:=n0_;clear n0_;(try clear hb);(try clear hb2);(try clear hk);(try clear hi))|((with_reducible refine gate_callee (f:=22) rfl ?_);refine goesL_ (some 29) rfl rfl Try.func22 (by kernel_rfl) rfl #[.string t264,.string t265] rfl (by (try simp only [List.map_toArray,List.map_cons,List.map_nil]);first|done|rfl|(simp only [List.length_drop,List.length_take];rfl)) ?_;(with_reducible refine (impl_JoinSets.calls k t264 t265 t266 t267 _ A5.out).mono ?_);rintro e w11 ⟨rfl,hb⟩;refine ⟨_,rfl,?_⟩;have n0_:=zm_ (below_step (by repeat (first|(with_reducible first|exact HB.out|apply za_|apply zn_|apply zd_)|exact HB.out)) hb);clear HB;have HB:=n0_;clear n0_;(try clear hb);(try clear hb2);(try clear hk);(try clear hi))|((with_reducible refine gate_callee (f:=24) rfl ?_);refine goesL_ (some 35) rfl rfl Try.func24 (by kernel_rfl) rfl #[.string t264,.string t265] rfl (by (try simp only [List.map_toArray,List.map_cons,List.map_nil]);first|done|rfl|(simp only [List.length_drop,List.length_take];rfl)) ?_;(with_reducible refine (impl_MeetSets.calls k t264 t265 t268 t269 _ A6.out).mono ?_);rintro e w12 ⟨rfl,hb⟩;refine ⟨_,rfl,?_⟩;have n0_:=zm_ (below_step (by repeat (first|(with_reducible first|exact HB.out|apply za_|apply zn_|apply zd_)|exact HB.out)) hb);clear HB;have HB:=n0_;clear n0_;(try clear hb);(try clear hb2);(try clear hk);(try clear hi))|((with_reducible refine gate_callee (f:=21) rfl ?_);refine goesL_ (some 41) rfl rfl Try.func21 (by kernel_rfl) rfl #[.string t264,.string t265] rfl (by (try simp only [List.map_toArray,List.map_cons,List.map_nil]);first|done|rfl|(simp only [List.length_drop,List.length_take];rfl)) ?_;(with_reducible refine (spec_JoinSets.calls k t264 t265 t270 t271 _ A7.out).mono ?_);rintro e w13 ⟨rfl,hb⟩;refine ⟨_,rfl,?_⟩;have n0_:=zm_ (below_step (by repeat (first|(with_reducible first|exact HB.out|apply za_|apply zn_|apply zd_)|exact HB.out)) hb);clear HB;have HB:=n0_;clear n0_;(try clear hb);(try clear hb2);(try clear hk);(try clear hi))|((with_reducible refine gate_callee (f:=23) rfl ?_);refine goesL_ (some 47) rfl rfl Try.func23 (by kernel_rfl) rfl #[.string t264,.string t265] rfl (by (try simp only [List.map_toArray,List.map_cons,List.map_nil]);first|done|rfl|(simp only [List.length_drop,List.length_take];rfl)) ?_;(with_reducible refine (spec_MeetSets.calls k t264 t265 t272 t273 _ A8.out).mono ?_);rintro e w14 ⟨rfl,hb⟩;refine ⟨_,rfl,?_⟩;have n0_:=zm_ (below_step (by repeat (first|(with_reducible first|exact HB.out|apply za_|apply zn_|apply zd_)|exact HB.out)) hb);clear HB;have HB:=n0_;clear n0_;(try clear hb);(try clear hb2);(try clear hk);(try clear hi)))
  (try simp only [Act.put,List.setIfInBounds_toArray,List.set_cons_zero,List.set_cons_succ])
  go_cut [57] (fun v57 wc => ∃ (kq : Nat) (x57_8 : Bool),v57 = .bool x57_8 ∧ Aside0 (laws_FnSetsJoined.j0 kq t264 t265 t266 t267 t268 t269 x57_8 = some r) ∧ Aside0 (kq ≤ k) ∧ Aside0 (Below w.heap.size w wc))
  case first =>
   have H:=HC9.out
   clear HC9
   by_cases c15 : (t267 != t271) = true
   ·rw [if_pos c15] at H
    have c15b0 : (t267 != t271) = true:=c15
    (try (have c15b1 : decide (t267 = t271) = false:=by simpa using c15))
    (try (have c15b2 : (t267 == t271) = false:=by simpa using c15))
    (try (have c15b3 : ¬ (t267 = t271):=by simpa using c15))
    clear c15
    (first|rw [c15b0]|(simp only [i64_w,i32_w];rw [c15b0])|skip)
    have H':=zm_ H
    clear H
    go_wp2
    go_meet
    case rel => exact ⟨_,(true),(by first|rfl|(exact congrArg Value.bool (isEmpty_ne _))|(exact congrArg Value.bool (isEmpty_ne' _))|(exact congrArg Value.bool (isEmpty_eq _))|(simp;done)|(simp [*];done)),H',⟨by first|omega|exact Nat.le_refl _⟩,⟨by repeat (first|(with_reducible first|exact HB.out|apply za_|apply zn_|apply zd_)|exact HB.out)⟩⟩
   ·rw [if_neg c15] at H
    have c15b0 : (t267 != t271) = false:=by simpa using c15
    (try (have c15b1 : decide (t267 = t271) = true:=by simpa using c15))
    (try (have c15b2 : (t267 == t271) = true:=by simpa using c15))
    clear c15
    (first|rw [c15b0]|(simp only [i64_w,i32_w];rw [c15b0])|skip)
    have H':=zm_ H
    clear H
    go_wp2
    go_meet
    case rel => exact ⟨_,((t269 != t273)),(by first|rfl|(exact congrArg Value.bool (isEmpty_ne _))|(exact congrArg Value.bool (isEmpty_ne' _))|(exact congrArg Value.bool (isEmpty_eq _))|(simp;done)|(simp [*];done)),H',⟨by first|omega|exact Nat.le_refl _⟩,⟨by repeat (first|(with_reducible first|exact HB.out|apply za_|apply zn_|apply zd_)|exact HB.out)⟩⟩
  case rest =>
   clear HC9
   try clear c1
   try clear c2
   try clear p2
   try clear c3
   try clear c11
   try clear c15
   try clear c15b0
   try clear c15b1
   try clear c15b2
   obtain ⟨kq,x57_8,rfl,HA,HJ8,HB⟩:=hcut
   cases kq with
   |zero => exact absurd HA.out (by simp [laws_FnSetsJoined.j0])
   |succ kj8 =>
    have H:=HA.out
    clear HA
    simp only [laws_FnSetsJoined.j0] at H
    by_cases c16 : x57_8 = true
    ·subst c16
     have H1 : (some false) = some r:=by rw [if_pos rfl] at H;exact H
     clear H
     have H:=H1
     clear H1
     obtain rfl:=Option.some.inj H
     go_wp2
     go_ret
     exact ⟨by first|rfl|(simp [errW_none,errW_some] <;> rfl)|(simp [*,errW_none,errW_some] <;> rfl),by repeat (first|(with_reducible first|exact HB.out|apply za_|apply zn_|apply zd_)|exact HB.out)⟩
    ·replace c16:=Bool.eq_false_iff.mpr c16
     subst c16
     have H1 : (laws_FnSetsJoined.l0 kj8 t264 t265 t266 t267 t268 t269 false 48) = some r:=by rw [if_neg (show ¬ (false = true) by decide)] at H;exact H
     clear H
     have H:=H1
     clear H1
     have H':=zm_ H
     clear H
     go_wp2
     go_loopg [13,14] kj8 (fun kq v13 v14 w' => ∃ (x13_2 : Bool) (x14_2 : Int),v13 = .bool x13_2 ∧ v14 = .int .i64 x14_2 ∧ Aside0 (laws_FnSetsJoined.l0 kq t264 t265 t266 t267 t268 t269 x13_2 x14_2 = some r) ∧ Aside0 (kq ≤ kj8) ∧ Aside0 (Below w.heap.size w w'))
     case atStart => exact ⟨(false),(48),(by first|rfl|(exact congrArg Value.bool (isEmpty_ne _))|(exact congrArg Value.bool (isEmpty_ne' _))|(exact congrArg Value.bool (isEmpty_eq _))|(simp;done)|(simp [*];done)),(by first|rfl|(exact congrArg Value.bool (isEmpty_ne _))|(exact congrArg Value.bool (isEmpty_ne' _))|(exact congrArg Value.bool (isEmpty_eq _))|(simp;done)|(simp [*];done)),H',⟨Nat.le_refl _⟩,⟨by repeat (first|(with_reducible first|exact HB.out|apply za_|apply zn_|apply zd_)|exact HB.out)⟩⟩
     case round =>
      clear H'
      try clear c1
      try clear c2
      try clear p2
      try clear c3
      try clear c11
      try clear c15
      try clear c15b0
      try clear c15b1
      try clear c15b2
      try clear c16
      try clear p2
      obtain ⟨x13_2,x14_2,rfl,rfl,HA,HK2,HB⟩:=hrel
      cases gk with
      |zero => exact absurd HA.out (by simp [laws_FnSetsJoined.l0])
      |succ k2 =>
       have H:=HA.out
       clear HA
       simp only [laws_FnSetsJoined.l0] at H
       by_cases c17 : x14_2 < 123
       ·rw [if_pos c17] at H
        have c17b0 : decide (x14_2 < 123) = true:=decide_eq_true c17
        clear c17
        replace H:=Option.bind_eq_some_iff.mp H
        obtain ⟨t276,A180,H⟩:=H
        replace H : ((spec_InSet.f k2 t265 ((x14_2) % 256)).bind fun t277 => (if t267 = true then ((impl_InSet.f k2 t266 ((x14_2) % 256)).bind fun t278 => (if t276 = true then (if (t278 != true) = true then (some false) else (if t269 = true then ((impl_InSet.f k2 t268 ((x14_2) % 256)).bind fun t279 => (if (t279 != t277) = true then (some false) else (if x13_2 = true then (laws_FnSetsJoined.l0 k2 t264 t265 t266 t267 t268 t269 true (wrap64 (x14_2 + 1))) else (laws_FnSetsJoined.l0 k2 t264 t265 t266 t267 t268 t269 t277 (wrap64 (x14_2 + 1)))))) else (if x13_2 = true then (laws_FnSetsJoined.l0 k2 t264 t265 t266 t267 t268 t269 true (wrap64 (x14_2 + 1))) else (laws_FnSetsJoined.l0 k2 t264 t265 t266 t267 t268 t269 t277 (wrap64 (x14_2 + 1)))))) else (if (t278 != t277) = true then (some false) else (if t269 = true then ((impl_InSet.f k2 t268 ((x14_2) % 256)).bind fun t280 => (if (t280 != false) = true then (some false) else (if x13_2 = true then (laws_FnSetsJoined.l0 k2 t264 t265 t266 t267 t268 t269 true (wrap64 (x14_2 + 1))) else (laws_FnSetsJoined.l0 k2 t264 t265 t266 t267 t268 t269 false (wrap64 (x14_2 + 1)))))) else (if x13_2 = true then (laws_FnSetsJoined.l0 k2 t264 t265 t266 t267 t268 t269 true (wrap64 (x14_2 + 1))) else (laws_FnSetsJoined.l0 k2 t264 t265 t266 t267 t268 t269 false (wrap64 (x14_2 + 1)))))))) else (if t269 = true then ((impl_InSet.f k2 t268 ((x14_2) % 256)).bind fun t281 => (if t276 = true then (if (t281 != t277) = true then (some false) else (if x13_2 = true then (laws_FnSetsJoined.l0 k2 t264 t265 t266 t267 t268 t269 true (wrap64 (x14_2 + 1))) else (laws_FnSetsJoined.l0 k2 t264 t265 t266 t267 t268 t269 t277 (wrap64 (x14_2 + 1))))) else (if (t281 != false) = true then (some false) else (if x13_2 = true then (laws_FnSetsJoined.l0 k2 t264 t265 t266 t267 t268 t269 true (wrap64 (x14_2 + 1))) else (laws_FnSetsJoined.l0 k2 t264 t265 t266 t267 t268 t269 false (wrap64 (x14_2 + 1))))))) else (if x13_2 = true then (laws_FnSetsJoined.l0 k2 t264 t265 t266 t267 t268 t269 true (wrap64 (x14_2 + 1))) else (if t276 = true then (laws_FnSetsJoined.l0 k2 t264 t265 t266 t267 t268 t269 t277 (wrap64 (x14_2 + 1))) else (laws_FnSetsJoined.l0 k2 t264 t265 t266 t267 t268 t269 false (wrap64 (x14_2 + 1)))))))) = some r:=H
        have A18:=zm_ A180
        clear A180
        replace H:=Option.bind_eq_some_iff.mp H
        obtain ⟨t277,A190,H⟩:=H
        replace H : (if t267 = true then ((impl_InSet.f k2 t266 ((x14_2) % 256)).bind fun t278 => (if t276 = true then (if (t278 != true) = true then (some false) else (if t269 = true then ((impl_InSet.f k2 t268 ((x14_2) % 256)).bind fun t279 => (if (t279 != t277) = true then (some false) else (if x13_2 = true then (laws_FnSetsJoined.l0 k2 t264 t265 t266 t267 t268 t269 true (wrap64 (x14_2 + 1))) else (laws_FnSetsJoined.l0 k2 t264 t265 t266 t267 t268 t269 t277 (wrap64 (x14_2 + 1)))))) else (if x13_2 = true then (laws_FnSetsJoined.l0 k2 t264 t265 t266 t267 t268 t269 true (wrap64 (x14_2 + 1))) else (laws_FnSetsJoined.l0 k2 t264 t265 t266 t267 t268 t269 t277 (wrap64 (x14_2 + 1)))))) else (if (t278 != t277) = true then (some false) else (if t269 = true then ((impl_InSet.f k2 t268 ((x14_2) % 256)).bind fun t280 => (if (t280 != false) = true then (some false) else (if x13_2 = true then (laws_FnSetsJoined.l0 k2 t264 t265 t266 t267 t268 t269 true (wrap64 (x14_2 + 1))) else (laws_FnSetsJoined.l0 k2 t264 t265 t266 t267 t268 t269 false (wrap64 (x14_2 + 1)))))) else (if x13_2 = true then (laws_FnSetsJoined.l0 k2 t264 t265 t266 t267 t268 t269 true (wrap64 (x14_2 + 1))) else (laws_FnSetsJoined.l0 k2 t264 t265 t266 t267 t268 t269 false (wrap64 (x14_2 + 1)))))))) else (if t269 = true then ((impl_InSet.f k2 t268 ((x14_2) % 256)).bind fun t281 => (if t276 = true then (if (t281 != t277) = true then (some false) else (if x13_2 = true then (laws_FnSetsJoined.l0 k2 t264 t265 t266 t267 t268 t269 true (wrap64 (x14_2 + 1))) else (laws_FnSetsJoined.l0 k2 t264 t265 t266 t267 t268 t269 t277 (wrap64 (x14_2 + 1))))) else (if (t281 != false) = true then (some false) else (if x13_2 = true then (laws_FnSetsJoined.l0 k2 t264 t265 t266 t267 t268 t269 true (wrap64 (x14_2 + 1))) else (laws_FnSetsJoined.l0 k2 t264 t265 t266 t267 t268 t269 false (wrap64 (x14_2 + 1))))))) else (if x13_2 = true then (laws_FnSetsJoined.l0 k2 t264 t265 t266 t267 t268 t269 true (wrap64 (x14_2 + 1))) else (if t276 = true then (laws_FnSetsJoined.l0 k2 t264 t265 t266 t267 t268 t269 t277 (wrap64 (x14_2 + 1))) else (laws_FnSetsJoined.l0 k2 t264 t265 t266 t267 t268 t269 false (wrap64 (x14_2 + 1))))))) = some r:=H
        have A19:=zm_ A190
        clear A190
        by_cases c20 : t267 = true
        ·subst c20
         have H1 : ((impl_InSet.f k2 t266 ((x14_2) % 256)).bind fun t278 => (if t276 = true then (if (t278 != true) = true then (some false) else (if t269 = true then ((impl_InSet.f k2 t268 ((x14_2) % 256)).bind fun t279 => (if (t279 != t277) = true then (some false) else (if x13_2 = true then (laws_FnSetsJoined.l0 k2 t264 t265 t266 true t268 t269 true (wrap64 (x14_2 + 1))) else (laws_FnSetsJoined.l0 k2 t264 t265 t266 true t268 t269 t277 (wrap64 (x14_2 + 1)))))) else (if x13_2 = true then (laws_FnSetsJoined.l0 k2 t264 t265 t266 true t268 t269 true (wrap64 (x14_2 + 1))) else (laws_FnSetsJoined.l0 k2 t264 t265 t266 true t268 t269 t277 (wrap64 (x14_2 + 1)))))) else (if (t278 != t277) = true then (some false) else (if t269 = true then ((impl_InSet.f k2 t268 ((x14_2) % 256)).bind fun t280 => (if (t280 != false) = true then (some false) else (if x13_2 = true then (laws_FnSetsJoined.l0 k2 t264 t265 t266 true t268 t269 true (wrap64 (x14_2 + 1))) else (laws_FnSetsJoined.l0 k2 t264 t265 t266 true t268 t269 false (wrap64 (x14_2 + 1)))))) else (if x13_2 = true then (laws_FnSetsJoined.l0 k2 t264 t265 t266 true t268 t269 true (wrap64 (x14_2 + 1))) else (laws_FnSetsJoined.l0 k2 t264 t265 t266 true t268 t269 false (wrap64 (x14_2 + 1)))))))) = some r:=by rw [if_pos rfl] at H;exact H
         clear H
         have H:=H1
         clear H1
         replace H:=Option.bind_eq_some_iff.mp H
         obtain ⟨t278,A210,H⟩:=H
         replace H : (if t276 = true then (if (t278 != true) = true then (some false) else (if t269 = true then ((impl_InSet.f k2 t268 ((x14_2) % 256)).bind fun t279 => (if (t279 != t277) = true then (some false) else (if x13_2 = true then (laws_FnSetsJoined.l0 k2 t264 t265 t266 true t268 t269 true (wrap64 (x14_2 + 1))) else (laws_FnSetsJoined.l0 k2 t264 t265 t266 true t268 t269 t277 (wrap64 (x14_2 + 1)))))) else (if x13_2 = true then (laws_FnSetsJoined.l0 k2 t264 t265 t266 true t268 t269 true (wrap64 (x14_2 + 1))) else (laws_FnSetsJoined.l0 k2 t264 t265 t266 true t268 t269 t277 (wrap64 (x14_2 + 1)))))) else (if (t278 != t277) = true then (some false) else (if t269 = true then ((impl_InSet.f k2 t268 ((x14_2) % 256)).bind fun t280 => (if (t280 != false) = true then (some false) else (if x13_2 = true then (laws_FnSetsJoined.l0 k2 t264 t265 t266 true t268 t269 true (wrap64 (x14_2 + 1))) else (laws_FnSetsJoined.l0 k2 t264 t265 t266 true t268 t269 false (wrap64 (x14_2 + 1)))))) else (if x13_2 = true then (laws_FnSetsJoined.l0 k2 t264 t265 t266 true t268 t269 true (wrap64 (x14_2 + 1))) else (laws_FnSetsJoined.l0 k2 t264 t265 t266 true t268 t269 false (wrap64 (x14_2 + 1))))))) = some r:=H
         have A21:=zm_ A210
         clear A210
         by_cases c22 : t276 = true
         ·subst c22
          have H1 : (if (t278 != true) = true then (some false) else (if t269 = true then ((impl_InSet.f k2 t268 ((x14_2) % 256)).bind fun t279 => (if (t279 != t277) = true then (some false) else (if x13_2 = true then (laws_FnSetsJoined.l0 k2 t264 t265 t266 true t268 t269 true (wrap64 (x14_2 + 1))) else (laws_FnSetsJoined.l0 k2 t264 t265 t266 true t268 t269 t277 (wrap64 (x14_2 + 1)))))) else (if x13_2 = true then (laws_FnSetsJoined.l0 k2 t264 t265 t266 true t268 t269 true (wrap64 (x14_2 + 1))) else (laws_FnSetsJoined.l0 k2 t264 t265 t266 true t268 t269 t277 (wrap64 (x14_2 + 1)))))) = some r:=by rw [if_pos rfl] at H;exact H
          clear H
          have H:=H1
          clear H1
          by_cases c23 : (t278 != true) = true
          ·rw [if_pos c23] at H
           have c23b0 : (t278 != true) = true:=c23
           (try (have c23b1 : decide (t278 = true) = false:=by simpa using c23))
           (try (have c23b2 : (t278 == true) = false:=by simpa using c23))
           (try (have c23b3 : ¬ (t278 = true):=by simpa using c23))
           clear c23
           obtain rfl:=Option.some.inj H
           go_wp2_with (first|((with_reducible refine gate_callee (f:=15) rfl ?_);refine goesL_ (some 65) rfl rfl Try.func15 (by kernel_rfl) rfl #[.string t264,.int .u8 ((x14_2) % 256)] rfl (by (try simp only [List.map_toArray,List.map_cons,List.map_nil]);first|done|rfl|(simp only [List.length_drop,List.length_take];rfl)) ?_;(with_reducible refine (spec_InSet.calls k2 t264 ((x14_2) % 256) true _ A18.out).mono ?_);rintro e w24 ⟨rfl,hb⟩;refine ⟨_,rfl,?_⟩;have n0_:=zm_ (below_step (by repeat (first|(with_reducible first|exact HB.out|apply za_|apply zn_|apply zd_)|exact HB.out)) hb);clear HB;have HB:=n0_;clear n0_;(try clear hb);(try clear hb2);(try clear hk);(try clear hi))|((with_reducible refine gate_callee (f:=15) rfl ?_);refine goesL_ (some 69) rfl rfl Try.func15 (by kernel_rfl) rfl #[.string t265,.int .u8 ((x14_2) % 256)] rfl (by (try simp only [List.map_toArray,List.map_cons,List.map_nil]);first|done|rfl|(simp only [List.length_drop,List.length_take];rfl)) ?_;(with_reducible refine (spec_InSet.calls k2 t265 ((x14_2) % 256) t277 _ A19.out).mono ?_);rintro e w25 ⟨rfl,hb⟩;refine ⟨_,rfl,?_⟩;have n0_:=zm_ (below_step (by repeat (first|(with_reducible first|exact HB.out|apply za_|apply zn_|apply zd_)|exact HB.out)) hb);clear HB;have HB:=n0_;clear n0_;(try clear hb);(try clear hb2);(try clear hk);(try clear hi))|(go_at_call 16;(with_reducible refine (impl_InSet.calls k2 t266 ((x14_2) % 256) t278 _ A21.out).mono ?_);rintro e w26 ⟨rfl,hb⟩;have n0_:=zm_ (below_step (by repeat (first|(with_reducible first|exact HB.out|apply za_|apply zn_|apply zd_)|exact HB.out)) hb);clear HB;have HB:=n0_;clear n0_;(try clear hb);(try clear hb2);(try clear hk);(try clear hi)))
           go_ret
           exact ⟨by first|rfl|(simp [errW_none,errW_some] <;> rfl)|(simp [*,errW_none,errW_some] <;> rfl),by repeat (first|(with_reducible first|exact HB.out|apply za_|apply zn_|apply zd_)|exact HB.out)⟩
          ·rw [if_neg c23] at H
           have c23b0 : (t278 != true) = false:=by simpa using c23
           (try (have c23b1 : decide (t278 = true) = true:=by simpa using c23))
           (try (have c23b2 : (t278 == true) = true:=by simpa using c23))
           clear c23
           by_cases c27 : t269 = true
           ·subst c27
            have H1 : ((impl_InSet.f k2 t268 ((x14_2) % 256)).bind fun t279 => (if (t279 != t277) = true then (some false) else (if x13_2 = true then (laws_FnSetsJoined.l0 k2 t264 t265 t266 true t268 true true (wrap64 (x14_2 + 1))) else (laws_FnSetsJoined.l0 k2 t264 t265 t266 true t268 true t277 (wrap64 (x14_2 + 1)))))) = some r:=by rw [if_pos rfl] at H;exact H
            clear H
            have H:=H1
            clear H1
            replace H:=Option.bind_eq_some_iff.mp H
            obtain ⟨t279,A280,H⟩:=H
            replace H : (if (t279 != t277) = true then (some false) else (if x13_2 = true then (laws_FnSetsJoined.l0 k2 t264 t265 t266 true t268 true true (wrap64 (x14_2 + 1))) else (laws_FnSetsJoined.l0 k2 t264 t265 t266 true t268 true t277 (wrap64 (x14_2 + 1))))) = some r:=H
            have A28:=zm_ A280
            clear A280
            by_cases c29 : (t279 != t277) = true
            ·rw [if_pos c29] at H
             have c29b0 : (t279 != t277) = true:=c29
             (try (have c29b1 : decide (t279 = t277) = false:=by simpa using c29))
             (try (have c29b2 : (t279 == t277) = false:=by simpa using c29))
             (try (have c29b3 : ¬ (t279 = t277):=by simpa using c29))
             clear c29
             obtain rfl:=Option.some.inj H
             go_wp2_with (first|((with_reducible refine gate_callee (f:=15) rfl ?_);refine goesL_ (some 65) rfl rfl Try.func15 (by kernel_rfl) rfl #[.string t264,.int .u8 ((x14_2) % 256)] rfl (by (try simp only [List.map_toArray,List.map_cons,List.map_nil]);first|done|rfl|(simp only [List.length_drop,List.length_take];rfl)) ?_;(with_reducible refine (spec_InSet.calls k2 t264 ((x14_2) % 256) true _ A18.out).mono ?_);rintro e w30 ⟨rfl,hb⟩;refine ⟨_,rfl,?_⟩;have n0_:=zm_ (below_step (by repeat (first|(with_reducible first|exact HB.out|apply za_|apply zn_|apply zd_)|exact HB.out)) hb);clear HB;have HB:=n0_;clear n0_;(try clear hb);(try clear hb2);(try clear hk);(try clear hi))|((with_reducible refine gate_callee (f:=15) rfl ?_);refine goesL_ (some 69) rfl rfl Try.func15 (by kernel_rfl) rfl #[.string t265,.int .u8 ((x14_2) % 256)] rfl (by (try simp only [List.map_toArray,List.map_cons,List.map_nil]);first|done|rfl|(simp only [List.length_drop,List.length_take];rfl)) ?_;(with_reducible refine (spec_InSet.calls k2 t265 ((x14_2) % 256) t277 _ A19.out).mono ?_);rintro e w31 ⟨rfl,hb⟩;refine ⟨_,rfl,?_⟩;have n0_:=zm_ (below_step (by repeat (first|(with_reducible first|exact HB.out|apply za_|apply zn_|apply zd_)|exact HB.out)) hb);clear HB;have HB:=n0_;clear n0_;(try clear hb);(try clear hb2);(try clear hk);(try clear hi))|(go_at_call 16;(with_reducible refine (impl_InSet.calls k2 t266 ((x14_2) % 256) t278 _ A21.out).mono ?_);rintro e w32 ⟨rfl,hb⟩;have n0_:=zm_ (below_step (by repeat (first|(with_reducible first|exact HB.out|apply za_|apply zn_|apply zd_)|exact HB.out)) hb);clear HB;have HB:=n0_;clear n0_;(try clear hb);(try clear hb2);(try clear hk);(try clear hi))|(go_at_call 16;(with_reducible refine (impl_InSet.calls k2 t268 ((x14_2) % 256) t279 _ A28.out).mono ?_);rintro e w33 ⟨rfl,hb⟩;have n0_:=zm_ (below_step (by repeat (first|(with_reducible first|exact HB.out|apply za_|apply zn_|apply zd_)|exact HB.out)) hb);clear HB;have HB:=n0_;clear n0_;(try clear hb);(try clear hb2);(try clear hk);(try clear hi)))
             go_ret
             exact ⟨by first|rfl|(simp [errW_none,errW_some] <;> rfl)|(simp [*,errW_none,errW_some] <;> rfl),by repeat (first|(with_reducible first|exact HB.out|apply za_|apply zn_|apply zd_)|exact HB.out)⟩
            ·rw [if_neg c29] at H
             have c29b0 : (t279 != t277) = false:=by simpa using c29
             (try (have c29b1 : decide (t279 = t277) = true:=by simpa using c29))
             (try (have c29b2 : (t279 == t277) = true:=by simpa using c29))
             clear c29
             by_cases c34 : x13_2 = true
             ·subst c34
              have H1 : (laws_FnSetsJoined.l0 k2 t264 t265 t266 true t268 true true (wrap64 (x14_2 + 1))) = some r:=by rw [if_pos rfl] at H;exact H
              clear H
              have H:=H1
              clear H1
              have H':=zm_ H
              clear H
              go_wp2_with (first|((with_reducible refine gate_callee (f:=15) rfl ?_);refine goesL_ (some 65) rfl rfl Try.func15 (by kernel_rfl) rfl #[.string t264,.int .u8 ((x14_2) % 256)] rfl (by (try simp only [List.map_toArray,List.map_cons,List.map_nil]);first|done|rfl|(simp only [List.length_drop,List.length_take];rfl)) ?_;(with_reducible refine (spec_InSet.calls k2 t264 ((x14_2) % 256) true _ A18.out).mono ?_);rintro e w35 ⟨rfl,hb⟩;refine ⟨_,rfl,?_⟩;have n0_:=zm_ (below_step (by repeat (first|(with_reducible first|exact HB.out|apply za_|apply zn_|apply zd_)|exact HB.out)) hb);clear HB;have HB:=n0_;clear n0_;(try clear hb);(try clear hb2);(try clear hk);(try clear hi))|((with_reducible refine gate_callee (f:=15) rfl ?_);refine goesL_ (some 69) rfl rfl Try.func15 (by kernel_rfl) rfl #[.string t265,.int .u8 ((x14_2) % 256)] rfl (by (try simp only [List.map_toArray,List.map_cons,List.map_nil]);first|done|rfl|(simp only [List.length_drop,List.length_take];rfl)) ?_;(with_reducible refine (spec_InSet.calls k2 t265 ((x14_2) % 256) t277 _ A19.out).mono ?_);rintro e w36 ⟨rfl,hb⟩;refine ⟨_,rfl,?_⟩;have n0_:=zm_ (below_step (by repeat (first|(with_reducible first|exact HB.out|apply za_|apply zn_|apply zd_)|exact HB.out)) hb);clear HB;have HB:=n0_;clear n0_;(try clear hb);(try clear hb2);(try clear hk);(try clear hi))|(go_at_call 16;(with_reducible refine (impl_InSet.calls k2 t266 ((x14_2) % 256) t278 _ A21.out).mono ?_);rintro e w37 ⟨rfl,hb⟩;have n0_:=zm_ (below_step (by repeat (first|(with_reducible first|exact HB.out|apply za_|apply zn_|apply zd_)|exact HB.out)) hb);clear HB;have HB:=n0_;clear n0_;(try clear hb);(try clear hb2);(try clear hk);(try clear hi))|(go_at_call 16;(with_reducible refine (impl_InSet.calls k2 t268 ((x14_2) % 256) t279 _ A28.out).mono ?_);rintro e w38 ⟨rfl,hb⟩;have n0_:=zm_ (below_step (by repeat (first|(with_reducible first|exact HB.out|apply za_|apply zn_|apply zd_)|exact HB.out)) hb);clear HB;have HB:=n0_;clear n0_;(try clear hb);(try clear hb2);(try clear hk);(try clear hi)))
              go_roundg k2
              case measure => have:=HJ8.out;have:=HK2.out;omega
              case rel => exact ⟨(true),(wrap64 (x14_2 + 1)),(by first|rfl|(exact congrArg Value.bool (isEmpty_ne _))|(exact congrArg Value.bool (isEmpty_ne' _))|(exact congrArg Value.bool (isEmpty_eq _))|(simp;done)|(simp [*];done)),(by first|rfl|(exact congrArg Value.bool (isEmpty_ne _))|(exact congrArg Value.bool (isEmpty_ne' _))|(exact congrArg Value.bool (isEmpty_eq _))|(simp;done)|(simp [*];done)),H',⟨by have:=HJ8.out;have:=HK2.out;omega⟩,⟨by repeat (first|(with_reducible first|exact HB.out|apply za_|apply zn_|apply zd_)|exact HB.out)⟩⟩
             ·replace c34:=Bool.eq_false_iff.mpr c34
              subst c34
              have H1 : (laws_FnSetsJoined.l0 k2 t264 t265 t266 true t268 true t277 (wrap64 (x14_2 + 1))) = some r:=by rw [if_neg (show ¬ (false = true) by decide)] at H;exact H
              clear H
              have H:=H1
              clear H1
              have H':=zm_ H
              clear H
              go_wp2_with (first|((with_reducible refine gate_callee (f:=15) rfl ?_);refine goesL_ (some 65) rfl rfl Try.func15 (by kernel_rfl) rfl #[.string t264,.int .u8 ((x14_2) % 256)] rfl (by (try simp only [List.map_toArray,List.map_cons,List.map_nil]);first|done|rfl|(simp only [List.length_drop,List.length_take];rfl)) ?_;(with_reducible refine (spec_InSet.calls k2 t264 ((x14_2) % 256) true _ A18.out).mono ?_);rintro e w39 ⟨rfl,hb⟩;refine ⟨_,rfl,?_⟩;have n0_:=zm_ (below_step (by repeat (first|(with_reducible first|exact HB.out|apply za_|apply zn_|apply zd_)|exact HB.out)) hb);clear HB;have HB:=n0_;clear n0_;(try clear hb);(try clear hb2);(try clear hk);(try clear hi))|((with_reducible refine gate_callee (f:=15) rfl ?_);refine goesL_ (some 69) rfl rfl Try.func15 (by kernel_rfl) rfl #[.string t265,.int .u8 ((x14_2) % 256)] rfl (by (try simp only [List.map_toArray,List.map_cons,List.map_nil]);first|done|rfl|(simp only [List.length_drop,List.length_take];rfl)) ?_;(with_reducible refine (spec_InSet.calls k2 t265 ((x14_2) % 256) t277 _ A19.out).mono ?_);rintro e w40 ⟨rfl,hb⟩;refine ⟨_,rfl,?_⟩;have n0_:=zm_ (below_step (by repeat (first|(with_reducible first|exact HB.out|apply za_|apply zn_|apply zd_)|exact HB.out)) hb);clear HB;have HB:=n0_;clear n0_;(try clear hb);(try clear hb2);(try clear hk);(try clear hi))|(go_at_call 16;(with_reducible refine (impl_InSet.calls k2 t266 ((x14_2) % 256) t278 _ A21.out).mono ?_);rintro e w41 ⟨rfl,hb⟩;have n0_:=zm_ (below_step (by repeat (first|(with_reducible first|exact HB.out|apply za_|apply zn_|apply zd_)|exact HB.out)) hb);clear HB;have HB:=n0_;clear n0_;(try clear hb);(try clear hb2);(try clear hk);(try clear hi))|(go_at_call 16;(with_reducible refine (impl_InSet.calls k2 t268 ((x14_2) % 256) t279 _ A28.out).mono ?_);rintro e w42 ⟨rfl,hb⟩;have n0_:=zm_ (below_step (by repeat (first|(with_reducible first|exact HB.out|apply za_|apply zn_|apply zd_)|exact HB.out)) hb);clear HB;have HB:=n0_;clear n0_;(try clear hb);(try clear hb2);(try clear hk);(try clear hi)))
              go_roundg k2
              case measure => have:=HJ8.out;have:=HK2.out;omega
              case rel => exact ⟨(t277),(wrap64 (x14_2 + 1)),(by first|rfl|(exact congrArg Value.bool (isEmpty_ne _))|(exact congrArg Value.bool (isEmpty_ne' _))|(exact congrArg Value.bool (isEmpty_eq _))|(simp;done)|(simp [*];done)),(by first|rfl|(exact congrArg Value.bool (isEmpty_ne _))|(exact congrArg Value.bool (isEmpty_ne' _))|(exact congrArg Value.bool (isEmpty_eq _))|(simp;done)|(simp [*];done)),H',⟨by have:=HJ8.out;have:=HK2.out;omega⟩,⟨by repeat (first|(with_reducible first|exact HB.out|apply za_|apply zn_|apply zd_)|exact HB.out)⟩⟩
           ·replace c27:=Bool.eq_false_iff.mpr c27
            subst c27
            have H1 : (if x13_2 = true then (laws_FnSetsJoined.l0 k2 t264 t265 t266 true t268 false true (wrap64 (x14_2 + 1))) else (laws_FnSetsJoined.l0 k2 t264 t265 t266 true t268 false t277 (wrap64 (x14_2 + 1)))) = some r:=by rw [if_neg (show ¬ (false = true) by decide)] at H;exact H
            clear H
            have H:=H1
            clear H1
            by_cases c43 : x13_2 = true
            ·subst c43
             have H1 : (laws_FnSetsJoined.l0 k2 t264 t265 t266 true t268 false true (wrap64 (x14_2 + 1))) = some r:=by rw [if_pos rfl] at H;exact H
             clear H
             have H:=H1
             clear H1
             have H':=zm_ H
             clear H
             go_wp2_with (first|((with_reducible refine gate_callee (f:=15) rfl ?_);refine goesL_ (some 65) rfl rfl Try.func15 (by kernel_rfl) rfl #[.string t264,.int .u8 ((x14_2) % 256)] rfl (by (try simp only [List.map_toArray,List.map_cons,List.map_nil]);first|done|rfl|(simp only [List.length_drop,List.length_take];rfl)) ?_;(with_reducible refine (spec_InSet.calls k2 t264 ((x14_2) % 256) true _ A18.out).mono ?_);rintro e w44 ⟨rfl,hb⟩;refine ⟨_,rfl,?_⟩;have n0_:=zm_ (below_step (by repeat (first|(with_reducible first|exact HB.out|apply za_|apply zn_|apply zd_)|exact HB.out)) hb);clear HB;have HB:=n0_;clear n0_;(try clear hb);(try clear hb2);(try clear hk);(try clear hi))|((with_reducible refine gate_callee (f:=15) rfl ?_);refine goesL_ (some 69) rfl rfl Try.func15 (by kernel_rfl) rfl #[.string t265,.int .u8 ((x14_2) % 256)] rfl (by (try simp only [List.map_toArray,List.map_cons,List.map_nil]);first|done|rfl|(simp only [List.length_drop,List.length_take];rfl)) ?_;(with_reducible refine (spec_InSet.calls k2 t265 ((x14_2) % 256) t277 _ A19.out).mono ?_);rintro e w45 ⟨rfl,hb⟩;refine ⟨_,rfl,?_⟩;have n0_:=zm_ (below_step (by repeat (first|(with_reducible first|exact HB.out|apply za_|apply zn_|apply zd_)|exact HB.out)) hb);clear HB;have HB:=n0_;clear n0_;(try clear hb);(try clear hb2);(try clear hk);(try clear hi))|(go_at_call 16;(with_reducible refine (impl_InSet.calls k2 t266 ((x14_2) % 256) t278 _ A21.out).mono ?_);rintro e w46 ⟨rfl,hb⟩;have n0_:=zm_ (below_step (by repeat (first|(with_reducible first|exact HB.out|apply za_|apply zn_|apply zd_)|exact HB.out)) hb);clear HB;have HB:=n0_;clear n0_;(try clear hb);(try clear hb2);(try clear hk);(try clear hi)))
             go_roundg k2
             case measure => have:=HJ8.out;have:=HK2.out;omega
             case rel => exact ⟨(true),(wrap64 (x14_2 + 1)),(by first|rfl|(exact congrArg Value.bool (isEmpty_ne _))|(exact congrArg Value.bool (isEmpty_ne' _))|(exact congrArg Value.bool (isEmpty_eq _))|(simp;done)|(simp [*];done)),(by first|rfl|(exact congrArg Value.bool (isEmpty_ne _))|(exact congrArg Value.bool (isEmpty_ne' _))|(exact congrArg Value.bool (isEmpty_eq _))|(simp;done)|(simp [*];done)),H',⟨by have:=HJ8.out;have:=HK2.out;omega⟩,⟨by repeat (first|(with_reducible first|exact HB.out|apply za_|apply zn_|apply zd_)|exact HB.out)⟩⟩
            ·replace c43:=Bool.eq_false_iff.mpr c43
             subst c43
             have H1 : (laws_FnSetsJoined.l0 k2 t264 t265 t266 true t268 false t277 (wrap64 (x14_2 + 1))) = some r:=by rw [if_neg (show ¬ (false = true) by decide)] at H;exact H
             clear H
             have H:=H1
             clear H1
             have H':=zm_ H
             clear H
             go_wp2_with (first|((with_reducible refine gate_callee (f:=15) rfl ?_);refine goesL_ (some 65) rfl rfl Try.func15 (by kernel_rfl) rfl #[.string t264,.int .u8 ((x14_2) % 256)] rfl (by (try simp only [List.map_toArray,List.map_cons,List.map_nil]);first|done|rfl|(simp only [List.length_drop,List.length_take];rfl)) ?_;(with_reducible refine (spec_InSet.calls k2 t264 ((x14_2) % 256) true _ A18.out).mono ?_);rintro e w47 ⟨rfl,hb⟩;refine ⟨_,rfl,?_⟩;have n0_:=zm_ (below_step (by repeat (first|(with_reducible first|exact HB.out|apply za_|apply zn_|apply zd_)|exact HB.out)) hb);clear HB;have HB:=n0_;clear n0_;(try clear hb);(try clear hb2);(try clear hk);(try clear hi))|((with_reducible refine gate_callee (f:=15) rfl ?_);refine goesL_ (some 69) rfl rfl Try.func15 (by kernel_rfl) rfl #[.string t265,.int .u8 ((x14_2) % 256)] rfl (by (try simp only [List.map_toArray,List.map_cons,List.map_nil]);first|done|rfl|(simp only [List.length_drop,List.length_take];rfl)) ?_;(with_reducible refine (spec_InSet.calls k2 t265 ((x14_2) % 256) t277 _ A19.out).mono ?_);rintro e w48 ⟨rfl,hb⟩;refine ⟨_,rfl,?_⟩;have n0_:=zm_ (below_step (by repeat (first|(with_reducible first|exact HB.out|apply za_|apply zn_|apply zd_)|exact HB.out)) hb);clear HB;have HB:=n0_;clear n0_;(try clear hb);(try clear hb2);(try clear hk);(try clear hi))|(go_at_call 16;(with_reducible refine (impl_InSet.calls k2 t266 ((x14_2) % 256) t278 _ A21.out).mono ?_);rintro e w49 ⟨rfl,hb⟩;have n0_:=zm_ (below_step (by repeat (first|(with_reducible first|exact HB.out|apply za_|apply zn_|apply zd_)|exact HB.out)) hb);clear HB;have HB:=n0_;clear n0_;(try clear hb);(try clear hb2);(try clear hk);(try clear hi)))
             go_roundg k2
             case measure => have:=HJ8.out;have:=HK2.out;omega
             case rel => exact ⟨(t277),(wrap64 (x14_2 + 1)),(by first|rfl|(exact congrArg Value.bool (isEmpty_ne _))|(exact congrArg Value.bool (isEmpty_ne' _))|(exact congrArg Value.bool (isEmpty_eq _))|(simp;done)|(simp [*];done)),(by first|rfl|(exact congrArg Value.bool (isEmpty_ne _))|(exact congrArg Value.bool (isEmpty_ne' _))|(exact congrArg Value.bool (isEmpty_eq _))|(simp;done)|(simp [*];done)),H',⟨by have:=HJ8.out;have:=HK2.out;omega⟩,⟨by repeat (first|(with_reducible first|exact HB.out|apply za_|apply zn_|apply zd_)|exact HB.out)⟩⟩
         ·replace c22:=Bool.eq_false_iff.mpr c22
          subst c22
          have H1 : (if (t278 != t277) = true then (some false) else (if t269 = true then ((impl_InSet.f k2 t268 ((x14_2) % 256)).bind fun t280 => (if (t280 != false) = true then (some false) else (if x13_2 = true then (laws_FnSetsJoined.l0 k2 t264 t265 t266 true t268 t269 true (wrap64 (x14_2 + 1))) else (laws_FnSetsJoined.l0 k2 t264 t265 t266 true t268 t269 false (wrap64 (x14_2 + 1)))))) else (if x13_2 = true then (laws_FnSetsJoined.l0 k2 t264 t265 t266 true t268 t269 true (wrap64 (x14_2 + 1))) else (laws_FnSetsJoined.l0 k2 t264 t265 t266 true t268 t269 false (wrap64 (x14_2 + 1)))))) = some r:=by rw [if_neg (show ¬ (false = true) by decide)] at H;exact H
          clear H
          have H:=H1
          clear H1
          by_cases c50 : (t278 != t277) = true
          ·rw [if_pos c50] at H
           have c50b0 : (t278 != t277) = true:=c50
           (try (have c50b1 : decide (t278 = t277) = false:=by simpa using c50))
           (try (have c50b2 : (t278 == t277) = false:=by simpa using c50))
           (try (have c50b3 : ¬ (t278 = t277):=by simpa using c50))
           clear c50
           obtain rfl:=Option.some.inj H
           go_wp2_with (first|((with_reducible refine gate_callee (f:=15) rfl ?_);refine goesL_ (some 65) rfl rfl Try.func15 (by kernel_rfl) rfl #[.string t264,.int .u8 ((x14_2) % 256)] rfl (by (try simp only [List.map_toArray,List.map_cons,List.map_nil]);first|done|rfl|(simp only [List.length_drop,List.length_take];rfl)) ?_;(with_reducible refine (spec_InSet.calls k2 t264 ((x14_2) % 256) false _ A18.out).mono ?_);rintro e w51 ⟨rfl,hb⟩;refine ⟨_,rfl,?_⟩;have n0_:=zm_ (below_step (by repeat (first|(with_reducible first|exact HB.out|apply za_|apply zn_|apply zd_)|exact HB.out)) hb);clear HB;have HB:=n0_;clear n0_;(try clear hb);(try clear hb2);(try clear hk);(try clear hi))|((with_reducible refine gate_callee (f:=15) rfl ?_);refine goesL_ (some 69) rfl rfl Try.func15 (by kernel_rfl) rfl #[.string t265,.int .u8 ((x14_2) % 256)] rfl (by (try simp only [List.map_toArray,List.map_cons,List.map_nil]);first|done|rfl|(simp only [List.length_drop,List.length_take];rfl)) ?_;(with_reducible refine (spec_InSet.calls k2 t265 ((x14_2) % 256) t277 _ A19.out).mono ?_);rintro e w52 ⟨rfl,hb⟩;refine ⟨_,rfl,?_⟩;have n0_:=zm_ (below_step (by repeat (first|(with_reducible first|exact HB.out|apply za_|apply zn_|apply zd_)|exact HB.out)) hb);clear HB;have HB:=n0_;clear n0_;(try clear hb);(try clear hb2);(try clear hk);(try clear hi))|(go_at_call 16;(with_reducible refine (impl_InSet.calls k2 t266 ((x14_2) % 256) t278 _ A21.out).mono ?_);rintro e w53 ⟨rfl,hb⟩;have n0_:=zm_ (below_step (by repeat (first|(with_reducible first|exact HB.out|apply za_|apply zn_|apply zd_)|exact HB.out)) hb);clear HB;have HB:=n0_;clear n0_;(try clear hb);(try clear hb2);(try clear hk);(try clear hi)))
           go_ret
           exact ⟨by first|rfl|(simp [errW_none,errW_some] <;> rfl)|(simp [*,errW_none,errW_some] <;> rfl),by repeat (first|(with_reducible first|exact HB.out|apply za_|apply zn_|apply zd_)|exact HB.out)⟩
          ·rw [if_neg c50] at H
           have c50b0 : (t278 != t277) = false:=by simpa using c50
           (try (have c50b1 : decide (t278 = t277) = true:=by simpa using c50))
           (try (have c50b2 : (t278 == t277) = true:=by simpa using c50))
           clear c50
           by_cases c54 : t269 = true
           ·subst c54
            have H1 : ((impl_InSet.f k2 t268 ((x14_2) % 256)).bind fun t280 => (if (t280 != false) = true then (some false) else (if x13_2 = true then (laws_FnSetsJoined.l0 k2 t264 t265 t266 true t268 true true (wrap64 (x14_2 + 1))) else (laws_FnSetsJoined.l0 k2 t264 t265 t266 true t268 true false (wrap64 (x14_2 + 1)))))) = some r:=by rw [if_pos rfl] at H;exact H
            clear H
            have H:=H1
            clear H1
            replace H:=Option.bind_eq_some_iff.mp H
            obtain ⟨t280,A550,H⟩:=H
            replace H : (if (t280 != false) = true then (some false) else (if x13_2 = true then (laws_FnSetsJoined.l0 k2 t264 t265 t266 true t268 true true (wrap64 (x14_2 + 1))) else (laws_FnSetsJoined.l0 k2 t264 t265 t266 true t268 true false (wrap64 (x14_2 + 1))))) = some r:=H
            have A55:=zm_ A550
            clear A550
            by_cases c56 : (t280 != false) = true
            ·rw [if_pos c56] at H
             have c56b0 : (t280 != false) = true:=c56
             (try (have c56b1 : decide (t280 = false) = false:=by simpa using c56))
             (try (have c56b2 : (t280 == false) = false:=by simpa using c56))
             (try (have c56b3 : ¬ (t280 = false):=by simpa using c56))
             clear c56
             obtain rfl:=Option.some.inj H
             go_wp2_with (first|((with_reducible refine gate_callee (f:=15) rfl ?_);refine goesL_ (some 65) rfl rfl Try.func15 (by kernel_rfl) rfl #[.string t264,.int .u8 ((x14_2) % 256)] rfl (by (try simp only [List.map_toArray,List.map_cons,List.map_nil]);first|done|rfl|(simp only [List.length_drop,List.length_take];rfl)) ?_;(with_reducible refine (spec_InSet.calls k2 t264 ((x14_2) % 256) false _ A18.out).mono ?_);rintro e w57 ⟨rfl,hb⟩;refine ⟨_,rfl,?_⟩;have n0_:=zm_ (below_step (by repeat (first|(with_reducible first|exact HB.out|apply za_|apply zn_|apply zd_)|exact HB.out)) hb);clear HB;have HB:=n0_;clear n0_;(try clear hb);(try clear hb2);(try clear hk);(try clear hi))|((with_reducible refine gate_callee (f:=15) rfl ?_);refine goesL_ (some 69) rfl rfl Try.func15 (by kernel_rfl) rfl #[.string t265,.int .u8 ((x14_2) % 256)] rfl (by (try simp only [List.map_toArray,List.map_cons,List.map_nil]);first|done|rfl|(simp only [List.length_drop,List.length_take];rfl)) ?_;(with_reducible refine (spec_InSet.calls k2 t265 ((x14_2) % 256) t277 _ A19.out).mono ?_);rintro e w58 ⟨rfl,hb⟩;refine ⟨_,rfl,?_⟩;have n0_:=zm_ (below_step (by repeat (first|(with_reducible first|exact HB.out|apply za_|apply zn_|apply zd_)|exact HB.out)) hb);clear HB;have HB:=n0_;clear n0_;(try clear hb);(try clear hb2);(try clear hk);(try clear hi))|(go_at_call 16;(with_reducible refine (impl_InSet.calls k2 t266 ((x14_2) % 256) t278 _ A21.out).mono ?_);rintro e w59 ⟨rfl,hb⟩;have n0_:=zm_ (below_step (by repeat (first|(with_reducible first|exact HB.out|apply za_|apply zn_|apply zd_)|exact HB.out)) hb);clear HB;have HB:=n0_;clear n0_;(try clear hb);(try clear hb2);(try clear hk);(try clear hi))|(go_at_call 16;(with_reducible refine (impl_InSet.calls k2 t268 ((x14_2) % 256) t280 _ A55.out).mono ?_);rintro e w60 ⟨rfl,hb⟩;have n0_:=zm_ (below_step (by repeat (first|(with_reducible first|exact HB.out|apply za_|apply zn_|apply zd_)|exact HB.out)) hb);clear HB;have HB:=n0_;clear n0_;(try clear hb);(try clear hb2);(try clear hk);(try clear hi)))
             go_ret
             exact ⟨by first|rfl|(simp [errW_none,errW_some] <;> rfl)|(simp [*,errW_none,errW_some] <;> rfl),by repeat (first|(with_reducible first|exact HB.out|apply za_|apply zn_|apply zd_)|exact HB.out)⟩
            ·rw [if_neg c56] at H
             have c56b0 : (t280 != false) = false:=by simpa using c56
             (try (have c56b1 : decide (t280 = false) = true:=by simpa using c56))
             (try (have c56b2 : (t280 == false) = true:=by simpa using c56))
             clear c56
             by_cases c61 : x13_2 = true
             ·subst c61
              have H1 : (laws_FnSetsJoined.l0 k2 t264 t265 t266 true t268 true true (wrap64 (x14_2 + 1))) = some r:=by rw [if_pos rfl] at H;exact H
              clear H
              have H:=H1
              clear H1
              have H':=zm_ H
              clear H
              go_wp2_with (first|((with_reducible refine gate_callee (f:=15) rfl ?_);refine goesL_ (some 65) rfl rfl Try.func15 (by kernel_rfl) rfl #[.string t264,.int .u8 ((x14_2) % 256)] rfl (by (try simp only [List.map_toArray,List.map_cons,List.map_nil]);first|done|rfl|(simp only [List.length_drop,List.length_take];rfl)) ?_;(with_reducible refine (spec_InSet.calls k2 t264 ((x14_2) % 256) false _ A18.out).mono ?_);rintro e w62 ⟨rfl,hb⟩;refine ⟨_,rfl,?_⟩;have n0_:=zm_ (below_step (by repeat (first|(with_reducible first|exact HB.out|apply za_|apply zn_|apply zd_)|exact HB.out)) hb);clear HB;have HB:=n0_;clear n0_;(try clear hb);(try clear hb2);(try clear hk);(try clear hi))|((with_reducible refine gate_callee (f:=15) rfl ?_);refine goesL_ (some 69) rfl rfl Try.func15 (by kernel_rfl) rfl #[.string t265,.int .u8 ((x14_2) % 256)] rfl (by (try simp only [List.map_toArray,List.map_cons,List.map_nil]);first|done|rfl|(simp only [List.length_drop,List.length_take];rfl)) ?_;(with_reducible refine (spec_InSet.calls k2 t265 ((x14_2) % 256) t277 _ A19.out).mono ?_);rintro e w63 ⟨rfl,hb⟩;refine ⟨_,rfl,?_⟩;have n0_:=zm_ (below_step (by repeat (first|(with_reducible first|exact HB.out|apply za_|apply zn_|apply zd_)|exact HB.out)) hb);clear HB;have HB:=n0_;clear n0_;(try clear hb);(try clear hb2);(try clear hk);(try clear hi))|(go_at_call 16;(with_reducible refine (impl_InSet.calls k2 t266 ((x14_2) % 256) t278 _ A21.out).mono ?_);rintro e w64 ⟨rfl,hb⟩;have n0_:=zm_ (below_step (by repeat (first|(with_reducible first|exact HB.out|apply za_|apply zn_|apply zd_)|exact HB.out)) hb);clear HB;have HB:=n0_;clear n0_;(try clear hb);(try clear hb2);(try clear hk);(try clear hi))|(go_at_call 16;(with_reducible refine (impl_InSet.calls k2 t268 ((x14_2) % 256) t280 _ A55.out).mono ?_);rintro e w65 ⟨rfl,hb⟩;have n0_:=zm_ (below_step (by repeat (first|(with_reducible first|exact HB.out|apply za_|apply zn_|apply zd_)|exact HB.out)) hb);clear HB;have HB:=n0_;clear n0_;(try clear hb);(try clear hb2);(try clear hk);(try clear hi)))
              go_roundg k2
              case measure => have:=HJ8.out;have:=HK2.out;omega
              case rel => exact ⟨(true),(wrap64 (x14_2 + 1)),(by first|rfl|(exact congrArg Value.bool (isEmpty_ne _))|(exact congrArg Value.bool (isEmpty_ne' _))|(exact congrArg Value.bool (isEmpty_eq _))|(simp;done)|(simp [*];done)),(by first|rfl|(exact congrArg Value.bool (isEmpty_ne _))|(exact congrArg Value.bool (isEmpty_ne' _))|(exact congrArg Value.bool (isEmpty_eq _))|(simp;done)|(simp [*];done)),H',⟨by have:=HJ8.out;have:=HK2.out;omega⟩,⟨by repeat (first|(with_reducible first|exact HB.out|apply za_|apply zn_|apply zd_)|exact HB.out)⟩⟩
             ·replace c61:=Bool.eq_false_iff.mpr c61
              subst c61
              have H1 : (laws_FnSetsJoined.l0 k2 t264 t265 t266 true t268 true false (wrap64 (x14_2 + 1))) = some r:=by rw [if_neg (show ¬ (false = true) by decide)] at H;exact H
              clear H
              have H:=H1
              clear H1
              have H':=zm_ H
              clear H
              go_wp2_with (first|((with_reducible refine gate_callee (f:=15) rfl ?_);refine goesL_ (some 65) rfl rfl Try.func15 (by kernel_rfl) rfl #[.string t264,.int .u8 ((x14_2) % 256)] rfl (by (try simp only [List.map_toArray,List.map_cons,List.map_nil]);first|done|rfl|(simp only [List.length_drop,List.length_take];rfl)) ?_;(with_reducible refine (spec_InSet.calls k2 t264 ((x14_2) % 256) false _ A18.out).mono ?_);rintro e w66 ⟨rfl,hb⟩;refine ⟨_,rfl,?_⟩;have n0_:=zm_ (below_step (by repeat (first|(with_reducible first|exact HB.out|apply za_|apply zn_|apply zd_)|exact HB.out)) hb);clear HB;have HB:=n0_;clear n0_;(try clear hb);(try clear hb2);(try clear hk);(try clear hi))|((with_reducible refine gate_callee (f:=15) rfl ?_);refine goesL_ (some 69) rfl rfl Try.func15 (by kernel_rfl) rfl #[.string t265,.int .u8 ((x14_2) % 256)] rfl (by (try simp only [List.map_toArray,List.map_cons,List.map_nil]);first|done|rfl|(simp only [List.length_drop,List.length_take];rfl)) ?_;(with_reducible refine (spec_InSet.calls k2 t265 ((x14_2) % 256) t277 _ A19.out).mono ?_);rintro e w67 ⟨rfl,hb⟩;refine ⟨_,rfl,?_⟩;have n0_:=zm_ (below_step (by repeat (first|(with_reducible first|exact HB.out|apply za_|apply zn_|apply zd_)|exact HB.out)) hb);clear HB;have HB:=n0_;clear n0_;(try clear hb);(try clear hb2);(try clear hk);(try clear hi))|(go_at_call 16;(with_reducible refine (impl_InSet.calls k2 t266 ((x14_2) % 256) t278 _ A21.out).mono ?_);rintro e w68 ⟨rfl,hb⟩;have n0_:=zm_ (below_step (by repeat (first|(with_reducible first|exact HB.out|apply za_|apply zn_|apply zd_)|exact HB.out)) hb);clear HB;have HB:=n0_;clear n0_;(try clear hb);(try clear hb2);(try clear hk);(try clear hi))|(go_at_call 16;(with_reducible refine (impl_InSet.calls k2 t268 ((x14_2) % 256) t280 _ A55.out).mono ?_);rintro e w69 ⟨rfl,hb⟩;have n0_:=zm_ (below_step (by repeat (first|(with_reducible first|exact HB.out|apply za_|apply zn_|apply zd_)|exact HB.out)) hb);clear HB;have HB:=n0_;clear n0_;(try clear hb);(try clear hb2);(try clear hk);(try clear hi)))
              go_roundg k2
              case measure => have:=HJ8.out;have:=HK2.out;omega
              case rel => exact ⟨(false),(wrap64 (x14_2 + 1)),(by first|rfl|(exact congrArg Value.bool (isEmpty_ne _))|(exact congrArg Value.bool (isEmpty_ne' _))|(exact congrArg Value.bool (isEmpty_eq _))|(simp;done)|(simp [*];done)),(by first|rfl|(exact congrArg Value.bool (isEmpty_ne _))|(exact congrArg Value.bool (isEmpty_ne' _))|(exact congrArg Value.bool (isEmpty_eq _))|(simp;done)|(simp [*];done)),H',⟨by have:=HJ8.out;have:=HK2.out;omega⟩,⟨by repeat (first|(with_reducible first|exact HB.out|apply za_|apply zn_|apply zd_)|exact HB.out)⟩⟩
           ·replace c54:=Bool.eq_false_iff.mpr c54
            subst c54
            have H1 : (if x13_2 = true then (laws_FnSetsJoined.l0 k2 t264 t265 t266 true t268 false true (wrap64 (x14_2 + 1))) else (laws_FnSetsJoined.l0 k2 t264 t265 t266 true t268 false false (wrap64 (x14_2 + 1)))) = some r:=by rw [if_neg (show ¬ (false = true) by decide)] at H;exact H
            clear H
            have H:=H1
            clear H1
            by_cases c70 : x13_2 = true
            ·subst c70
             have H1 : (laws_FnSetsJoined.l0 k2 t264 t265 t266 true t268 false true (wrap64 (x14_2 + 1))) = some r:=by rw [if_pos rfl] at H;exact H
             clear H
             have H:=H1
             clear H1
             have H':=zm_ H
             clear H
             go_wp2_with (first|((with_reducible refine gate_callee (f:=15) rfl ?_);refine goesL_ (some 65) rfl rfl Try.func15 (by kernel_rfl) rfl #[.string t264,.int .u8 ((x14_2) % 256)] rfl (by (try simp only [List.map_toArray,List.map_cons,List.map_nil]);first|done|rfl|(simp only [List.length_drop,List.length_take];rfl)) ?_;(with_reducible refine (spec_InSet.calls k2 t264 ((x14_2) % 256) false _ A18.out).mono ?_);rintro e w71 ⟨rfl,hb⟩;refine ⟨_,rfl,?_⟩;have n0_:=zm_ (below_step (by repeat (first|(with_reducible first|exact HB.out|apply za_|apply zn_|apply zd_)|exact HB.out)) hb);clear HB;have HB:=n0_;clear n0_;(try clear hb);(try clear hb2);(try clear hk);(try clear hi))|((with_reducible refine gate_callee (f:=15) rfl ?_);refine goesL_ (some 69) rfl rfl Try.func15 (by kernel_rfl) rfl #[.string t265,.int .u8 ((x14_2) % 256)] rfl (by (try simp only [List.map_toArray,List.map_cons,List.map_nil]);first|done|rfl|(simp only [List.length_drop,List.length_take];rfl)) ?_;(with_reducible refine (spec_InSet.calls k2 t265 ((x14_2) % 256) t277 _ A19.out).mono ?_);rintro e w72 ⟨rfl,hb⟩;refine ⟨_,rfl,?_⟩;have n0_:=zm_ (below_step (by repeat (first|(with_reducible first|exact HB.out|apply za_|apply zn_|apply zd_)|exact HB.out)) hb);clear HB;have HB:=n0_;clear n0_;(try clear hb);(try clear hb2);(try clear hk);(try clear hi))|(go_at_call 16;(with_reducible refine (impl_InSet.calls k2 t266 ((x14_2) % 256) t278 _ A21.out).mono ?_);rintro e w73 ⟨rfl,hb⟩;have n0_:=zm_ (below_step (by repeat (first|(with_reducible first|exact HB.out|apply za_|apply zn_|apply zd_)|exact HB.out)) hb);clear HB;have HB:=n0_;clear n0_;(try clear hb);(try clear hb2);(try clear hk);(try clear hi)))
             go_roundg k2
             case measure => have:=HJ8.out;have:=HK2.out;omega
             case rel => exact ⟨(true),(wrap64 (x14_2 + 1)),(by first|rfl|(exact congrArg Value.bool (isEmpty_ne _))|(exact congrArg Value.bool (isEmpty_ne' _))|(exact congrArg Value.bool (isEmpty_eq _))|(simp;done)|(simp [*];done)),(by first|rfl|(exact congrArg Value.bool (isEmpty_ne _))|(exact congrArg Value.bool (isEmpty_ne' _))|(exact congrArg Value.bool (isEmpty_eq _))|(simp;done)|(simp [*];done)),H',⟨by have:=HJ8.out;have:=HK2.out;omega⟩,⟨by repeat (first|(with_reducible first|exact HB.out|apply za_|apply zn_|apply zd_)|exact HB.out)⟩⟩
            ·replace c70:=Bool.eq_false_iff.mpr c70
             subst c70
             have H1 : (laws_FnSetsJoined.l0 k2 t264 t265 t266 true t268 false false (wrap64 (x14_2 + 1))) = some r:=by rw [if_neg (show ¬ (false = true) by decide)] at H;exact H
             clear H
             have H:=H1
             clear H1
             have H':=zm_ H
             clear H
             go_wp2_with (first|((with_reducible refine gate_callee (f:=15) rfl ?_);refine goesL_ (some 65) rfl rfl Try.func15 (by kernel_rfl) rfl #[.string t264,.int .u8 ((x14_2) % 256)] rfl (by (try simp only [List.map_toArray,List.map_cons,List.map_nil]);first|done|rfl|(simp only [List.length_drop,List.length_take];rfl)) ?_;(with_reducible refine (spec_InSet.calls k2 t264 ((x14_2) % 256) false _ A18.out).mono ?_);rintro e w74 ⟨rfl,hb⟩;refine ⟨_,rfl,?_⟩;have n0_:=zm_ (below_step (by repeat (first|(with_reducible first|exact HB.out|apply za_|apply zn_|apply zd_)|exact HB.out)) hb);clear HB;have HB:=n0_;clear n0_;(try clear hb);(try clear hb2);(try clear hk);(try clear hi))|((with_reducible refine gate_callee (f:=15) rfl ?_);refine goesL_ (some 69) rfl rfl Try.func15 (by kernel_rfl) rfl #[.string t265,.int .u8 ((x14_2) % 256)] rfl (by (try simp only [List.map_toArray,List.map_cons,List.map_nil]);first|done|rfl|(simp only [List.length_drop,List.length_take];rfl)) ?_;(with_reducible refine (spec_InSet.calls k2 t265 ((x14_2) % 256) t277 _ A19.out).mono ?_);rintro e w75 ⟨rfl,hb⟩;refine ⟨_,rfl,?_⟩;have n0_:=zm_ (below_step (by repeat (first|(with_reducible first|exact HB.out|apply za_|apply zn_|apply zd_)|exact HB.out)) hb);clear HB;have HB:=n0_;clear n0_;(try clear hb);(try clear hb2);(try clear hk);(try clear hi))|(go_at_call 16;(with_reducible refine (impl_InSet.calls k2 t266 ((x14_2) % 256) t278 _ A21.out).mono ?_);rintro e w76 ⟨rfl,hb⟩;have n0_:=zm_ (below_step (by repeat (first|(with_reducible first|exact HB.out|apply za_|apply zn_|apply zd_)|exact HB.out)) hb);clear HB;have HB:=n0_;clear n0_;(try clear hb);(try clear hb2);(try clear hk);(try clear hi)))
             go_roundg k2
             case measure => have:=HJ8.out;have:=HK2.out;omega
             case rel => exact ⟨(false),(wrap64 (x14_2 + 1)),(by first|rfl|(exact congrArg Value.bool (isEmpty_ne _))|(exact congrArg Value.bool (isEmpty_ne' _))|(exact congrArg Value.bool (isEmpty_eq _))|(simp;done)|(simp [*];done)),(by first|rfl|(exact congrArg Value.bool (isEmpty_ne _))|(exact congrArg Value.bool (isEmpty_ne' _))|(exact congrArg Value.bool (isEmpty_eq _))|(simp;done)|(simp [*];done)),H',⟨by have:=HJ8.out;have:=HK2.out;omega⟩,⟨by repeat (first|(with_reducible first|exact HB.out|apply za_|apply zn_|apply zd_)|exact HB.out)⟩⟩
        ·replace c20:=Bool.eq_false_iff.mpr c20
         subst c20
         have H1 : (if t269 = true then ((impl_InSet.f k2 t268 ((x14_2) % 256)).bind fun t281 => (if t276 = true then (if (t281 != t277) = true then (some false) else (if x13_2 = true then (laws_FnSetsJoined.l0 k2 t264 t265 t266 false t268 t269 true (wrap64 (x14_2 + 1))) else (laws_FnSetsJoined.l0 k2 t264 t265 t266 false t268 t269 t277 (wrap64 (x14_2 + 1))))) else (if (t281 != false) = true then (some false) else (if x13_2 = true then (laws_FnSetsJoined.l0 k2 t264 t265 t266 false t268 t269 true (wrap64 (x14_2 + 1))) else (laws_FnSetsJoined.l0 k2 t264 t265 t266 false t268 t269 false (wrap64 (x14_2 + 1))))))) else (if x13_2 = true then (laws_FnSetsJoined.l0 k2 t264 t265 t266 false t268 t269 true (wrap64 (x14_2 + 1))) else (if t276 = true then (laws_FnSetsJoined.l0 k2 t264 t265 t266 false t268 t269 t277 (wrap64 (x14_2 + 1))) else (laws_FnSetsJoined.l0 k2 t264 t265 t266 false t268 t269 false (wrap64 (x14_2 + 1)))))) = some r:=by rw [if_neg (show ¬ (false = true) by decide)] at H;exact H
         clear H
         have H:=H1
         clear H1
         by_cases c77 : t269 = true
         ·subst c77
          have H1 : ((impl_InSet.f k2 t268 ((x14_2) % 256)).bind fun t281 => (if t276 = true then (if (t281 != t277) = true then (some false) else (if x13_2 = true then (laws_FnSetsJoined.l0 k2 t264 t265 t266 false t268 true true (wrap64 (x14_2 + 1))) else (laws_FnSetsJoined.l0 k2 t264 t265 t266 false t268 true t277 (wrap64 (x14_2 + 1))))) else (if (t281 != false) = true then (some false) else (if x13_2 = true then (laws_FnSetsJoined.l0 k2 t264 t265 t266 false t268 true true (wrap64 (x14_2 + 1))) else (laws_FnSetsJoined.l0 k2 t264 t265 t266 false t268 true false (wrap64 (x14_2 + 1))))))) = some r:=by rw [if_pos rfl] at H;exact H
          clear H
          have H:=H1
          clear H1
          replace H:=Option.bind_eq_some_iff.mp H
          obtain ⟨t281,A780,H⟩:=H
          replace H : (if t276 = true then (if (t281 != t277) = true then (some false) else (if x13_2 = true then (laws_FnSetsJoined.l0 k2 t264 t265 t266 false t268 true true (wrap64 (x14_2 + 1))) else (laws_FnSetsJoined.l0 k2 t264 t265 t266 false t268 true t277 (wrap64 (x14_2 + 1))))) else (if (t281 != false) = true then (some false) else (if x13_2 = true then (laws_FnSetsJoined.l0 k2 t264 t265 t266 false t268 true true (wrap64 (x14_2 + 1))) else (laws_FnSetsJoined.l0 k2 t264 t265 t266 false t268 true false (wrap64 (x14_2 + 1)))))) = some r:=H
          have A78:=zm_ A780
          clear A780
          by_cases c79 : t276 = true
          ·subst c79
           have H1 : (if (t281 != t277) = true then (some false) else (if x13_2 = true then (laws_FnSetsJoined.l0 k2 t264 t265 t266 false t268 true true (wrap64 (x14_2 + 1))) else (laws_FnSetsJoined.l0 k2 t264 t265 t266 false t268 true t277 (wrap64 (x14_2 + 1))))) = some r:=by rw [if_pos rfl] at H;exact H
           clear H
           have H:=H1
           clear H1
           by_cases c80 : (t281 != t277) = true
           ·rw [if_pos c80] at H
            have c80b0 : (t281 != t277) = true:=c80
            (try (have c80b1 : decide (t281 = t277) = false:=by simpa using c80))
            (try (have c80b2 : (t281 == t277) = false:=by simpa using c80))
            (try (have c80b3 : ¬ (t281 = t277):=by simpa using c80))
            clear c80
            obtain rfl:=Option.some.inj H
            go_wp2_with (first|((with_reducible refine gate_callee (f:=15) rfl ?_);refine goesL_ (some 65) rfl rfl Try.func15 (by kernel_rfl) rfl #[.string t264,.int .u8 ((x14_2) % 256)] rfl (by (try simp only [List.map_toArray,List.map_cons,List.map_nil]);first|done|rfl|(simp only [List.length_drop,List.length_take];rfl)) ?_;(with_reducible refine (spec_InSet.calls k2 t264 ((x14_2) % 256) true _ A18.out).mono ?_);rintro e w81 ⟨rfl,hb⟩;refine ⟨_,rfl,?_⟩;have n0_:=zm_ (below_step (by repeat (first|(with_reducible first|exact HB.out|apply za_|apply zn_|apply zd_)|exact HB.out)) hb);clear HB;have HB:=n0_;clear n0_;(try clear hb);(try clear hb2);(try clear hk);(try clear hi))|((with_reducible refine gate_callee (f:=15) rfl ?_);refine goesL_ (some 69) rfl rfl Try.func15 (by kernel_rfl) rfl #[.string t265,.int .u8 ((x14_2) % 256)] rfl (by (try simp only [List.map_toArray,List.map_cons,List.map_nil]);first|done|rfl|(simp only [List.length_drop,List.length_take];rfl)) ?_;(with_reducible refine (spec_InSet.calls k2 t265 ((x14_2) % 256) t277 _ A19.out).mono ?_);rintro e w82 ⟨rfl,hb⟩;refine ⟨_,rfl,?_⟩;have n0_:=zm_ (below_step (by repeat (first|(with_reducible first|exact HB.out|apply za_|apply zn_|apply zd_)|exact HB.out)) hb);clear HB;have HB:=n0_;clear n0_;(try clear hb);(try clear hb2);(try clear hk);(try clear hi))|(go_at_call 16;(with_reducible refine (impl_InSet.calls k2 t268 ((x14_2) % 256) t281 _ A78.out).mono ?_);rintro e w83 ⟨rfl,hb⟩;have n0_:=zm_ (below_step (by repeat (first|(with_reducible first|exact HB.out|apply za_|apply zn_|apply zd_)|exact HB.out)) hb);clear HB;have HB:=n0_;clear n0_;(try clear hb);(try clear hb2);(try clear hk);(try clear hi)))
            go_ret
            exact ⟨by first|rfl|(simp [errW_none,errW_some] <;> rfl)|(simp [*,errW_none,errW_some] <;> rfl),by repeat (first|(with_reducible first|exact HB.out|apply za_|apply zn_|apply zd_)|exact HB.out)⟩
           ·rw [if_neg c80] at H
            have c80b0 : (t281 != t277) = false:=by simpa using c80
            (try (have c80b1 : decide (t281 = t277) = true:=by simpa using c80))
            (try (have c80b2 : (t281 == t277) = true:=by simpa using c80))
            clear c80
            by_cases c84 : x13_2 = true
            ·subst c84
             have H1 : (laws_FnSetsJoined.l0 k2 t264 t265 t266 false t268 true true (wrap64 (x14_2 + 1))) = some r:=by rw [if_pos rfl] at H;exact H
             clear H
             have H:=H1
             clear H1
             have H':=zm_ H
             clear H
             go_wp2_with (first|((with_reducible refine gate_callee (f:=15) rfl ?_);refine goesL_ (some 65) rfl rfl Try.func15 (by kernel_rfl) rfl #[.string t264,.int .u8 ((x14_2) % 256)] rfl (by (try simp only [List.map_toArray,List.map_cons,List.map_nil]);first|done|rfl|(simp only [List.length_drop,List.length_take];rfl)) ?_;(with_reducible refine (spec_InSet.calls k2 t264 ((x14_2) % 256) true _ A18.out).mono ?_);rintro e w85 ⟨rfl,hb⟩;refine ⟨_,rfl,?_⟩;have n0_:=zm_ (below_step (by repeat (first|(with_reducible first|exact HB.out|apply za_|apply zn_|apply zd_)|exact HB.out)) hb);clear HB;have HB:=n0_;clear n0_;(try clear hb);(try clear hb2);(try clear hk);(try clear hi))|((with_reducible refine gate_callee (f:=15) rfl ?_);refine goesL_ (some 69) rfl rfl Try.func15 (by kernel_rfl) rfl #[.string t265,.int .u8 ((x14_2) % 256)] rfl (by (try simp only [List.map_toArray,List.map_cons,List.map_nil]);first|done|rfl|(simp only [List.length_drop,List.length_take];rfl)) ?_;(with_reducible refine (spec_InSet.calls k2 t265 ((x14_2) % 256) t277 _ A19.out).mono ?_);rintro e w86 ⟨rfl,hb⟩;refine ⟨_,rfl,?_⟩;have n0_:=zm_ (below_step (by repeat (first|(with_reducible first|exact HB.out|apply za_|apply zn_|apply zd_)|exact HB.out)) hb);clear HB;have HB:=n0_;clear n0_;(try clear hb);(try clear hb2);(try clear hk);(try clear hi))|(go_at_call 16;(with_reducible refine (impl_InSet.calls k2 t268 ((x14_2) % 256) t281 _ A78.out).mono ?_);rintro e w87 ⟨rfl,hb⟩;have n0_:=zm_ (below_step (by repeat (first|(with_reducible first|exact HB.out|apply za_|apply zn_|apply zd_)|exact HB.out)) hb);clear HB;have HB:=n0_;clear n0_;(try clear hb);(try clear hb2);(try clear hk);(try clear hi)))
             go_roundg k2
             case measure => have:=HJ8.out;have:=HK2.out;omega
             case rel => exact ⟨(true),(wrap64 (x14_2 + 1)),(by first|rfl|(exact congrArg Value.bool (isEmpty_ne _))|(exact congrArg Value.bool (isEmpty_ne' _))|(exact congrArg Value.bool (isEmpty_eq _))|(simp;done)|(simp [*];done)),(by first|rfl|(exact congrArg Value.bool (isEmpty_ne _))|(exact congrArg Value.bool (isEmpty_ne' _))|(exact congrArg Value.bool (isEmpty_eq _))|(simp;done)|(simp [*];done)),H',⟨by have:=HJ8.out;have:=HK2.out;omega⟩,⟨by repeat (first|(with_reducible first|exact HB.out|apply za_|apply zn_|apply zd_)|exact HB.out)⟩⟩
            ·replace c84:=Bool.eq_false_iff.mpr c84
             subst c84
             have H1 : (laws_FnSetsJoined.l0 k2 t264 t265 t266 false t268 true t277 (wrap64 (x14_2 + 1))) = some r:=by rw [if_neg (show ¬ (false = true) by decide)] at H;exact H
             clear H
             have H:=H1
             clear H1
             have H':=zm_ H
             clear H
             go_wp2_with (first|((with_reducible refine gate_callee (f:=15) rfl ?_);refine goesL_ (some 65) rfl rfl Try.func15 (by kernel_rfl) rfl #[.string t264,.int .u8 ((x14_2) % 256)] rfl (by (try simp only [List.map_toArray,List.map_cons,List.map_nil]);first|done|rfl|(simp only [List.length_drop,List.length_take];rfl)) ?_;(with_reducible refine (spec_InSet.calls k2 t264 ((x14_2) % 256) true _ A18.out).mono ?_);rintro e w88 ⟨rfl,hb⟩;refine ⟨_,rfl,?_⟩;have n0_:=zm_ (below_step (by repeat (first|(with_reducible first|exact HB.out|apply za_|apply zn_|apply zd_)|exact HB.out)) hb);clear HB;have HB:=n0_;clear n0_;(try clear hb);(try clear hb2);(try clear hk);(try clear hi))|((with_reducible refine gate_callee (f:=15) rfl ?_);refine goesL_ (some 69) rfl rfl Try.func15 (by kernel_rfl) rfl #[.string t265,.int .u8 ((x14_2) % 256)] rfl (by (try simp only [List.map_toArray,List.map_cons,List.map_nil]);first|done|rfl|(simp only [List.length_drop,List.length_take];rfl)) ?_;(with_reducible refine (spec_InSet.calls k2 t265 ((x14_2) % 256) t277 _ A19.out).mono ?_);rintro e w89 ⟨rfl,hb⟩;refine ⟨_,rfl,?_⟩;have n0_:=zm_ (below_step (by repeat (first|(with_reducible first|exact HB.out|apply za_|apply zn_|apply zd_)|exact HB.out)) hb);clear HB;have HB:=n0_;clear n0_;(try clear hb);(try clear hb2);(try clear hk);(try clear hi))|(go_at_call 16;(with_reducible refine (impl_InSet.calls k2 t268 ((x14_2) % 256) t281 _ A78.out).mono ?_);rintro e w90 ⟨rfl,hb⟩;have n0_:=zm_ (below_step (by repeat (first|(with_reducible first|exact HB.out|apply za_|apply zn_|apply zd_)|exact HB.out)) hb);clear HB;have HB:=n0_;clear n0_;(try clear hb);(try clear hb2);(try clear hk);(try clear hi)))
             go_roundg k2
             case measure => have:=HJ8.out;have:=HK2.out;omega
             case rel => exact ⟨(t277),(wrap64 (x14_2 + 1)),(by first|rfl|(exact congrArg Value.bool (isEmpty_ne _))|(exact congrArg Value.bool (isEmpty_ne' _))|(exact congrArg Value.bool (isEmpty_eq _))|(simp;done)|(simp [*];done)),(by first|rfl|(exact congrArg Value.bool (isEmpty_ne _))|(exact congrArg Value.bool (isEmpty_ne' _))|(exact congrArg Value.bool (isEmpty_eq _))|(simp;done)|(simp [*];done)),H',⟨by have:=HJ8.out;have:=HK2.out;omega⟩,⟨by repeat (first|(with_reducible first|exact HB.out|apply za_|apply zn_|apply zd_)|exact HB.out)⟩⟩
          ·replace c79:=Bool.eq_false_iff.mpr c79
           subst c79
           have H1 : (if (t281 != false) = true then (some false) else (if x13_2 = true then (laws_FnSetsJoined.l0 k2 t264 t265 t266 false t268 true true (wrap64 (x14_2 + 1))) else (laws_FnSetsJoined.l0 k2 t264 t265 t266 false t268 true false (wrap64 (x14_2 + 1))))) = some r:=by rw [if_neg (show ¬ (false = true) by decide)] at H;exact H
           clear H
           have H:=H1
           clear H1
           by_cases c91 : (t281 != false) = true
           ·rw [if_pos c91] at H
            have c91b0 : (t281 != false) = true:=c91
            (try (have c91b1 : decide (t281 = false) = false:=by simpa using c91))
            (try (have c91b2 : (t281 == false) = false:=by simpa using c91))
            (try (have c91b3 : ¬ (t281 = false):=by simpa using c91))
            clear c91
            obtain rfl:=Option.some.inj H
            go_wp2_with (first|((with_reducible refine gate_callee (f:=15) rfl ?_);refine goesL_ (some 65) rfl rfl Try.func15 (by kernel_rfl) rfl #[.string t264,.int .u8 ((x14_2) % 256)] rfl (by (try simp only [List.map_toArray,List.map_cons,List.map_nil]);first|done|rfl|(simp only [List.length_drop,List.length_take];rfl)) ?_;(with_reducible refine (spec_InSet.calls k2 t264 ((x14_2) % 256) false _ A18.out).mono ?_);rintro e w92 ⟨rfl,hb⟩;refine ⟨_,rfl,?_⟩;have n0_:=zm_ (below_step (by repeat (first|(with_reducible first|exact HB.out|apply za_|apply zn_|apply zd_)|exact HB.out)) hb);clear HB;have HB:=n0_;clear n0_;(try clear hb);(try clear hb2);(try clear hk);(try clear hi))|((with_reducible refine gate_callee (f:=15) rfl ?_);refine goesL_ (some 69) rfl rfl Try.func15 (by kernel_rfl) rfl #[.string t265,.int .u8 ((x14_2) % 256)] rfl (by (try simp only [List.map_toArray,List.map_cons,List.map_nil]);first|done|rfl|(simp only [List.length_drop,List.length_take];rfl)) ?_;(with_reducible refine (spec_InSet.calls k2 t265 ((x14_2) % 256) t277 _ A19.out).mono ?_);rintro e w93 ⟨rfl,hb⟩;refine ⟨_,rfl,?_⟩;have n0_:=zm_ (below_step (by repeat (first|(with_reducible first|exact HB.out|apply za_|apply zn_|apply zd_)|exact HB.out)) hb);clear HB;have HB:=n0_;clear n0_;(try clear hb);(try clear hb2);(try clear hk);(try clear hi))|(go_at_call 16;(with_reducible refine (impl_InSet.calls k2 t268 ((x14_2) % 256) t281 _ A78.out).mono ?_);rintro e w94 ⟨rfl,hb⟩;have n0_:=zm_ (below_step (by repeat (first|(with_reducible first|exact HB.out|apply za_|apply zn_|apply zd_)|exact HB.out)) hb);clear HB;have HB:=n0_;clear n0_;(try clear hb);(try clear hb2);(try clear hk);(try clear hi)))
            go_ret
            exact ⟨by first|rfl|(simp [errW_none,errW_some] <;> rfl)|(simp [*,errW_none,errW_some] <;> rfl),by repeat (first|(with_reducible first|exact HB.out|apply za_|apply zn_|apply zd_)|exact HB.out)⟩
           ·rw [if_neg c91] at H
            have c91b0 : (t281 != false) = false:=by simpa using c91
            (try (have c91b1 : decide (t281 = false) = true:=by simpa using c91))
            (try (have c91b2 : (t281 == false) = true:=by simpa using c91))
            clear c91
            by_cases c95 : x13_2 = true
            ·subst c95
             have H1 : (laws_FnSetsJoined.l0 k2 t264 t265 t266 false t268 true true (wrap64 (x14_2 + 1))) = some r:=by rw [if_pos rfl] at H;exact H
             clear H
             have H:=H1
             clear H1
             have H':=zm_ H
             clear H
             go_wp2_with (first|((with_reducible refine gate_callee (f:=15) rfl ?_);refine goesL_ (some 65) rfl rfl Try.func15 (by kernel_rfl) rfl #[.string t264,.int .u8 ((x14_2) % 256)] rfl (by (try simp only [List.map_toArray,List.map_cons,List.map_nil]);first|done|rfl|(simp only [List.length_drop,List.length_take];rfl)) ?_;(with_reducible refine (spec_InSet.calls k2 t264 ((x14_2) % 256) false _ A18.out).mono ?_);rintro e w96 ⟨rfl,hb⟩;refine ⟨_,rfl,?_⟩;have n0_:=zm_ (below_step (by repeat (first|(with_reducible first|exact HB.out|apply za_|apply zn_|apply zd_)|exact HB.out)) hb);clear HB;have HB:=n0_;clear n0_;(try clear hb);(try clear hb2);(try clear hk);(try clear hi))|((with_reducible refine gate_callee (f:=15) rfl ?_);refine goesL_ (some 69) rfl rfl Try.func15 (by kernel_rfl) rfl #[.string t265,.int .u8 ((x14_2) % 256)] rfl (by (try simp only [List.map_toArray,List.map_cons,List.map_nil]);first|done|rfl|(simp only [List.length_drop,List.length_take];rfl)) ?_;(with_reducible refine (spec_InSet.calls k2 t265 ((x14_2) % 256) t277 _ A19.out).mono ?_);rintro e w97 ⟨rfl,hb⟩;refine ⟨_,rfl,?_⟩;have n0_:=zm_ (below_step (by repeat (first|(with_reducible first|exact HB.out|apply za_|apply zn_|apply zd_)|exact HB.out)) hb);clear HB;have HB:=n0_;clear n0_;(try clear hb);(try clear hb2);(try clear hk);(try clear hi))|(go_at_call 16;(with_reducible refine (impl_InSet.calls k2 t268 ((x14_2) % 256) t281 _ A78.out).mono ?_);rintro e w98 ⟨rfl,hb⟩;have n0_:=zm_ (below_step (by repeat (first|(with_reducible first|exact HB.out|apply za_|apply zn_|apply zd_)|exact HB.out)) hb);clear HB;have HB:=n0_;clear n0_;(try clear hb);(try clear hb2);(try clear hk);(try clear hi)))
             go_roundg k2
             case measure => have:=HJ8.out;have:=HK2.out;omega
             case rel => exact ⟨(true),(wrap64 (x14_2 + 1)),(by first|rfl|(exact congrArg Value.bool (isEmpty_ne _))|(exact congrArg Value.bool (isEmpty_ne' _))|(exact congrArg Value.bool (isEmpty_eq _))|(simp;done)|(simp [*];done)),(by first|rfl|(exact congrArg Value.bool (isEmpty_ne _))|(exact congrArg Value.bool (isEmpty_ne' _))|(exact congrArg Value.bool (isEmpty_eq _))|(simp;done)|(simp [*];done)),H',⟨by have:=HJ8.out;have:=HK2.out;omega⟩,⟨by repeat (first|(with_reducible first|exact HB.out|apply za_|apply zn_|apply zd_)|exact HB.out)⟩⟩
            ·replace c95:=Bool.eq_false_iff.mpr c95
             subst c95
             have H1 : (laws_FnSetsJoined.l0 k2 t264 t265 t266 false t268 true false (wrap64 (x14_2 + 1))) = some r:=by rw [if_neg (show ¬ (false = true) by decide)] at H;exact H
             clear H
             have H:=H1
             clear H1
             have H':=zm_ H
             clear H
             go_wp2_with (first|((with_reducible refine gate_callee (f:=15) rfl ?_);refine goesL_ (some 65) rfl rfl Try.func15 (by kernel_rfl) rfl #[.string t264,.int .u8 ((x14_2) % 256)] rfl (by (try simp only [List.map_toArray,List.map_cons,List.map_nil]);first|done|rfl|(simp only [List.length_drop,List.length_take];rfl)) ?_;(with_reducible refine (spec_InSet.calls k2 t264 ((x14_2) % 256) false _ A18.out).mono ?_);rintro e w99 ⟨rfl,hb⟩;refine ⟨_,rfl,?_⟩;have n0_:=zm_ (below_step (by repeat (first|(with_reducible first|exact HB.out|apply za_|apply zn_|apply zd_)|exact HB.out)) hb);clear HB;have HB:=n0_;clear n0_;(try clear hb);(try clear hb2);(try clear hk);(try clear hi))|((with_reducible refine gate_callee (f:=15) rfl ?_);refine goesL_ (some 69) rfl rfl Try.func15 (by kernel_rfl) rfl #[.string t265,.int .u8 ((x14_2) % 256)] rfl (by (try simp only [List.map_toArray,List.map_cons,List.map_nil]);first|done|rfl|(simp only [List.length_drop,List.length_take];rfl)) ?_;(with_reducible refine (spec_InSet.calls k2 t265 ((x14_2) % 256) t277 _ A19.out).mono ?_);rintro e w100 ⟨rfl,hb⟩;refine ⟨_,rfl,?_⟩;have n0_:=zm_ (below_step (by repeat (first|(with_reducible first|exact HB.out|apply za_|apply zn_|apply zd_)|exact HB.out)) hb);clear HB;have HB:=n0_;clear n0_;(try clear hb);(try clear hb2);(try clear hk);(try clear hi))|(go_at_call 16;(with_reducible refine (impl_InSet.calls k2 t268 ((x14_2) % 256) t281 _ A78.out).mono ?_);rintro e w101 ⟨rfl,hb⟩;have n0_:=zm_ (below_step (by repeat (first|(with_reducible first|exact HB.out|apply za_|apply zn_|apply zd_)|exact HB.out)) hb);clear HB;have HB:=n0_;clear n0_;(try clear hb);(try clear hb2);(try clear hk);(try clear hi)))
             go_roundg k2
             case measure => have:=HJ8.out;have:=HK2.out;omega
             case rel => exact ⟨(false),(wrap64 (x14_2 + 1)),(by first|rfl|(exact congrArg Value.bool (isEmpty_ne _))|(exact congrArg Value.bool (isEmpty_ne' _))|(exact congrArg Value.bool (isEmpty_eq _))|(simp;done)|(simp [*];done)),(by first|rfl|(exact congrArg Value.bool (isEmpty_ne _))|(exact congrArg Value.bool (isEmpty_ne' _))|(exact congrArg Value.bool (isEmpty_eq _))|(simp;done)|(simp [*];done)),H',⟨by have:=HJ8.out;have:=HK2.out;omega⟩,⟨by repeat (first|(with_reducible first|exact HB.out|apply za_|apply zn_|apply zd_)|exact HB.out)⟩⟩
         ·replace c77:=Bool.eq_false_iff.mpr c77
          subst c77
          have H1 : (if x13_2 = true then (laws_FnSetsJoined.l0 k2 t264 t265 t266 false t268 false true (wrap64 (x14_2 + 1))) else (if t276 = true then (laws_FnSetsJoined.l0 k2 t264 t265 t266 false t268 false t277 (wrap64 (x14_2 + 1))) else (laws_FnSetsJoined.l0 k2 t264 t265 t266 false t268 false false (wrap64 (x14_2 + 1))))) = some r:=by rw [if_neg (show ¬ (false = true) by decide)] at H;exact H
          clear H
          have H:=H1
          clear H1
          by_cases c102 : x13_2 = true
          ·subst c102
           have H1 : (laws_FnSetsJoined.l0 k2 t264 t265 t266 false t268 false true (wrap64 (x14_2 + 1))) = some r:=by rw [if_pos rfl] at H;exact H
           clear H
           have H:=H1
           clear H1
           have H':=zm_ H
           clear H
           go_wp2_with (first|((with_reducible refine gate_callee (f:=15) rfl ?_);refine goesL_ (some 65) rfl rfl Try.func15 (by kernel_rfl) rfl #[.string t264,.int .u8 ((x14_2) % 256)] rfl (by (try simp only [List.map_toArray,List.map_cons,List.map_nil]);first|done|rfl|(simp only [List.length_drop,List.length_take];rfl)) ?_;(with_reducible refine (spec_InSet.calls k2 t264 ((x14_2) % 256) t276 _ A18.out).mono ?_);rintro e w103 ⟨rfl,hb⟩;refine ⟨_,rfl,?_⟩;have n0_:=zm_ (below_step (by repeat (first|(with_reducible first|exact HB.out|apply za_|apply zn_|apply zd_)|exact HB.out)) hb);clear HB;have HB:=n0_;clear n0_;(try clear hb);(try clear hb2);(try clear hk);(try clear hi))|((with_reducible refine gate_callee (f:=15) rfl ?_);refine goesL_ (some 69) rfl rfl Try.func15 (by kernel_rfl) rfl #[.string t265,.int .u8 ((x14_2) % 256)] rfl (by (try simp only [List.map_toArray,List.map_cons,List.map_nil]);first|done|rfl|(simp only [List.length_drop,List.length_take];rfl)) ?_;(with_reducible refine (spec_InSet.calls k2 t265 ((x14_2) % 256) t277 _ A19.out).mono ?_);rintro e w104 ⟨rfl,hb⟩;refine ⟨_,rfl,?_⟩;have n0_:=zm_ (below_step (by repeat (first|(with_reducible first|exact HB.out|apply za_|apply zn_|apply zd_)|exact HB.out)) hb);clear HB;have HB:=n0_;clear n0_;(try clear hb);(try clear hb2);(try clear hk);(try clear hi)))
           go_roundg k2
           case measure => have:=HJ8.out;have:=HK2.out;omega
           case rel => exact ⟨(true),(wrap64 (x14_2 + 1)),(by first|rfl|(exact congrArg Value.bool (isEmpty_ne _))|(exact congrArg Value.bool (isEmpty_ne' _))|(exact congrArg Value.bool (isEmpty_eq _))|(simp;done)|(simp [*];done)),(by first|rfl|(exact congrArg Value.bool (isEmpty_ne _))|(exact congrArg Value.bool (isEmpty_ne' _))|(exact congrArg Value.bool (isEmpty_eq _))|(simp;done)|(simp [*];done)),H',⟨by have:=HJ8.out;have:=HK2.out;omega⟩,⟨by repeat (first|(with_reducible first|exact HB.out|apply za_|apply zn_|apply zd_)|exact HB.out)⟩⟩
          ·replace c102:=Bool.eq_false_iff.mpr c102
           subst c102
           have H1 : (if t276 = true then (laws_FnSetsJoined.l0 k2 t264 t265 t266 false t268 false t277 (wrap64 (x14_2 + 1))) else (laws_FnSetsJoined.l0 k2 t264 t265 t266 false t268 false false (wrap64 (x14_2 + 1)))) = some r:=by rw [if_neg (show ¬ (false = true) by decide)] at H;exact H
           clear H
           have H:=H1
           clear H1
           by_cases c105 : t276 = true
           ·subst c105
            have H1 : (laws_FnSetsJoined.l0 k2 t264 t265 t266 false t268 false t277 (wrap64 (x14_2 + 1))) = some r:=by rw [if_pos rfl] at H;exact H
            clear H
            have H:=H1
            clear H1
            have H':=zm_ H
            clear H
            go_wp2_with (first|((with_reducible refine gate_callee (f:=15) rfl ?_);refine goesL_ (some 65) rfl rfl Try.func15 (by kernel_rfl) rfl #[.string t264,.int .u8 ((x14_2) % 256)] rfl (by (try simp only [List.map_toArray,List.map_cons,List.map_nil]);first|done|rfl|(simp only [List.length_drop,List.length_take];rfl)) ?_;(with_reducible refine (spec_InSet.calls k2 t264 ((x14_2) % 256) true _ A18.out).mono ?_);rintro e w106 ⟨rfl,hb⟩;refine ⟨_,rfl,?_⟩;have n0_:=zm_ (below_step (by repeat (first|(with_reducible first|exact HB.out|apply za_|apply zn_|apply zd_)|exact HB.out)) hb);clear HB;have HB:=n0_;clear n0_;(try clear hb);(try clear hb2);(try clear hk);(try clear hi))|((with_reducible refine gate_callee (f:=15) rfl ?_);refine goesL_ (some 69) rfl rfl Try.func15 (by kernel_rfl) rfl #[.string t265,.int .u8 ((x14_2) % 256)] rfl (by (try simp only [List.map_toArray,List.map_cons,List.map_nil]);first|done|rfl|(simp only [List.length_drop,List.length_take];rfl)) ?_;(with_reducible refine (spec_InSet.calls k2 t265 ((x14_2) % 256) t277 _ A19.out).mono ?_);rintro e w107 ⟨rfl,hb⟩;refine ⟨_,rfl,?_⟩;have n0_:=zm_ (below_step (by repeat (first|(with_reducible first|exact HB.out|apply za_|apply zn_|apply zd_)|exact HB.out)) hb);clear HB;have HB:=n0_;clear n0_;(try clear hb);(try clear hb2);(try clear hk);(try clear hi)))
            go_roundg k2
            case measure => have:=HJ8.out;have:=HK2.out;omega
            case rel => exact ⟨(t277),(wrap64 (x14_2 + 1)),(by first|rfl|(exact congrArg Value.bool (isEmpty_ne _))|(exact congrArg Value.bool (isEmpty_ne' _))|(exact congrArg Value.bool (isEmpty_eq _))|(simp;done)|(simp [*];done)),(by first|rfl|(exact congrArg Value.bool (isEmpty_ne _))|(exact congrArg Value.bool (isEmpty_ne' _))|(exact congrArg Value.bool (isEmpty_eq _))|(simp;done)|(simp [*];done)),H',⟨by have:=HJ8.out;have:=HK2.out;omega⟩,⟨by repeat (first|(with_reducible first|exact HB.out|apply za_|apply zn_|apply zd_)|exact HB.out)⟩⟩
           ·replace c105:=Bool.eq_false_iff.mpr c105
            subst c105
            have H1 : (laws_FnSetsJoined.l0 k2 t264 t265 t266 false t268 false false (wrap64 (x14_2 + 1))) = some r:=by rw [if_neg (show ¬ (false = true) by decide)] at H;exact H
            clear H
            have H:=H1
            clear H1
            have H':=zm_ H
            clear H
            go_wp2_with (first|((with_reducible refine gate_callee (f:=15) rfl ?_);refine goesL_ (some 65) rfl rfl Try.func15 (by kernel_rfl) rfl #[.string t264,.int .u8 ((x14_2) % 256)] rfl (by (try simp only [List.map_toArray,List.map_cons,List.map_nil]);first|done|rfl|(simp only [List.length_drop,List.length_take];rfl)) ?_;(with_reducible refine (spec_InSet.calls k2 t264 ((x14_2) % 256) false _ A18.out).mono ?_);rintro e w108 ⟨rfl,hb⟩;refine ⟨_,rfl,?_⟩;have n0_:=zm_ (below_step (by repeat (first|(with_reducible first|exact HB.out|apply za_|apply zn_|apply zd_)|exact HB.out)) hb);clear HB;have HB:=n0_;clear n0_;(try clear hb);(try clear hb2);(try clear hk);(try clear hi))|((with_reducible refine gate_callee (f:=15) rfl ?_);refine goesL_ (some 69) rfl rfl Try.func15 (by kernel_rfl) rfl #[.string t265,.int .u8 ((x14_2) % 256)] rfl (by (try simp only [List.map_toArray,List.map_cons,List.map_nil]);first|done|rfl|(simp only [List.length_drop,List.length_take];rfl)) ?_;(with_reducible refine (spec_InSet.calls k2 t265 ((x14_2) % 256) t277 _ A19.out).mono ?_);rintro e w109 ⟨rfl,hb⟩;refine ⟨_,rfl,?_⟩;have n0_:=zm_ (below_step (by repeat (first|(with_reducible first|exact HB.out|apply za_|apply zn_|apply zd_)|exact HB.out)) hb);clear HB;have HB:=n0_;clear n0_;(try clear hb);(try clear hb2);(try clear hk);(try clear hi)))
            go_roundg k2
            case measure => have:=HJ8.out;have:=HK2.out;omega
            case rel => exact ⟨(false),(wrap64 (x14_2 + 1)),(by first|rfl|(exact congrArg Value.bool (isEmpty_ne _))|(exact congrArg Value.bool (isEmpty_ne' _))|(exact congrArg Value.bool (isEmpty_eq _))|(simp;done)|(simp [*];done)),(by first|rfl|(exact congrArg Value.bool (isEmpty_ne _))|(exact congrArg Value.bool (isEmpty_ne' _))|(exact congrArg Value.bool (isEmpty_eq _))|(simp;done)|(simp [*];done)),H',⟨by have:=HJ8.out;have:=HK2.out;omega⟩,⟨by repeat (first|(with_reducible first|exact HB.out|apply za_|apply zn_|apply zd_)|exact HB.out)⟩⟩
       ·rw [if_neg c17] at H
        have c17b0 : decide (x14_2 < 123) = false:=decide_eq_false c17
        clear c17
        replace H:=Option.bind_eq_some_iff.mp H
        obtain ⟨⟨t274,t275⟩,A1100,H⟩:=H
        replace H : (if x13_2 = true then (if (t267 == t275) = true then (some (t266.toList == t274.toList)) else (some false)) else (if t269 = true then (some false) else (if (t267 == t275) = true then (some (t266.toList == t274.toList)) else (some false)))) = some r:=H
        have A110:=zm_ A1100
        clear A1100
        by_cases c111 : x13_2 = true
        ·subst c111
         have H1 : (if (t267 == t275) = true then (some (t266.toList == t274.toList)) else (some false)) = some r:=by rw [if_pos rfl] at H;exact H
         clear H
         have H:=H1
         clear H1
         by_cases c112 : (t267 == t275) = true
         ·rw [if_pos c112] at H
          have c112b0 : (t267 == t275) = true:=c112
          (try (have c112b1 : decide (t267 = t275) = true:=by simpa using c112))
          (try (have c112b2 : (t267 == t275) = true:=by simpa using c112))
          clear c112
          obtain rfl:=Option.some.inj H
          go_wp2_with (first|((with_reducible refine gate_callee (f:=22) rfl ?_);refine goesL_ (some 106) rfl rfl Try.func22 (by kernel_rfl) rfl #[.string t265,.string t264] rfl (by (try simp only [List.map_toArray,List.map_cons,List.map_nil]);first|done|rfl|(simp only [List.length_drop,List.length_take];rfl)) ?_;(with_reducible refine (impl_JoinSets.calls k2 t265 t264 t274 t275 _ A110.out).mono ?_);rintro e w113 ⟨rfl,hb⟩;refine ⟨_,rfl,?_⟩;have n0_:=zm_ (below_step (by repeat (first|(with_reducible first|exact HB.out|apply za_|apply zn_|apply zd_)|exact HB.out)) hb);clear HB;have HB:=n0_;clear n0_;(try clear hb);(try clear hb2);(try clear hk);(try clear hi)))
          go_ret
          exact ⟨by first|rfl|(simp [errW_none,errW_some] <;> rfl)|(simp [*,errW_none,errW_some] <;> rfl),by repeat (first|(with_reducible first|exact HB.out|apply za_|apply zn_|apply zd_)|exact HB.out)⟩
         ·rw [if_neg c112] at H
          have c112b0 : (t267 == t275) = false:=by simpa using c112
          (try (have c112b1 : decide (t267 = t275) = false:=by simpa using c112))
          (try (have c112b2 : (t267 == t275) = false:=by simpa using c112))
          (try (have c112b3 : ¬ (t267 = t275):=by simpa using c112))
          clear c112
          obtain rfl:=Option.some.inj H
          go_wp2_with (first|((with_reducible refine gate_callee (f:=22) rfl ?_);refine goesL_ (some 106) rfl rfl Try.func22 (by kernel_rfl) rfl #[.string t265,.string t264] rfl (by (try simp only [List.map_toArray,List.map_cons,List.map_nil]);first|done|rfl|(simp only [List.length_drop,List.length_take];rfl)) ?_;(with_reducible refine (impl_JoinSets.calls k2 t265 t264 t274 t275 _ A110.out).mono ?_);rintro e w114 ⟨rfl,hb⟩;refine ⟨_,rfl,?_⟩;have n0_:=zm_ (below_step (by repeat (first|(with_reducible first|exact HB.out|apply za_|apply zn_|apply zd_)|exact HB.out)) hb);clear HB;have HB:=n0_;clear n0_;(try clear hb);(try clear hb2);(try clear hk);(try clear hi)))
          go_ret
          exact ⟨by first|rfl|(simp [errW_none,errW_some] <;> rfl)|(simp [*,errW_none,errW_some] <;> rfl),by repeat (first|(with_reducible first|exact HB.out|apply za_|apply zn_|apply zd_)|exact HB.out)⟩
        ·replace c111:=Bool.eq_false_iff.mpr c111
         subst c111
         have H1 : (if t269 = true then (some false) else (if (t267 == t275) = true then (some (t266.toList == t274.toList)) else (some false))) = some r:=by rw [if_neg (show ¬ (false = true) by decide)] at H;exact H
         clear H
         have H:=H1
         clear H1
         by_cases c115 : t269 = true
         ·subst c115
          have H1 : (some false) = some r:=by rw [if_pos rfl] at H;exact H
          clear H
          have H:=H1
          clear H1
          obtain rfl:=Option.some.inj H
          go_wp2_with (first|((with_reducible refine gate_callee (f:=22) rfl ?_);refine goesL_ (some 106) rfl rfl Try.func22 (by kernel_rfl) rfl #[.string t265,.string t264] rfl (by (try simp only [List.map_toArray,List.map_cons,List.map_nil]);first|done|rfl|(simp only [List.length_drop,List.length_take];rfl)) ?_;(with_reducible refine (impl_JoinSets.calls k2 t265 t264 t274 t275 _ A110.out).mono ?_);rintro e w116 ⟨rfl,hb⟩;refine ⟨_,rfl,?_⟩;have n0_:=zm_ (below_step (by repeat (first|(with_reducible first|exact HB.out|apply za_|apply zn_|apply zd_)|exact HB.out)) hb);clear HB;have HB:=n0_;clear n0_;(try clear hb);(try clear hb2);(try clear hk);(try clear hi)))
          go_ret
          exact ⟨by first|rfl|(simp [errW_none,errW_some] <;> rfl)|(simp [*,errW_none,errW_some] <;> rfl),by repeat (first|(with_reducible first|exact HB.out|apply za_|apply zn_|apply zd_)|exact HB.out)⟩
         ·replace c115:=Bool.eq_false_iff.mpr c115
          subst c115
          have H1 : (if (t267 == t275) = true then (some (t266.toList == t274.toList)) else (some false)) = some r:=by rw [if_neg (show ¬ (false = true) by decide)] at H;exact H
          clear H
          have H:=H1
          clear H1
          by_cases c117 : (t267 == t275) = true
          ·rw [if_pos c117] at H
           have c117b0 : (t267 == t275) = true:=c117
           (try (have c117b1 : decide (t267 = t275) = true:=by simpa using c117))
           (try (have c117b2 : (t267 == t275) = true:=by simpa using c117))
           clear c117
           obtain rfl:=Option.some.inj H
           go_wp2_with (first|((with_reducible refine gate_callee (f:=22) rfl ?_);refine goesL_ (some 106) rfl rfl Try.func22 (by kernel_rfl) rfl #[.string t265,.string t264] rfl (by (try simp only [List.map_toArray,List.map_cons,List.map_nil]);first|done|rfl|(simp only [List.length_drop,List.length_take];rfl)) ?_;(with_reducible refine (impl_JoinSets.calls k2 t265 t264 t274 t275 _ A110.out).mono ?_);rintro e w118 ⟨rfl,hb⟩;refine ⟨_,rfl,?_⟩;have n0_:=zm_ (below_step (by repeat (first|(with_reducible first|exact HB.out|apply za_|apply zn_|apply zd_)|exact HB.out)) hb);clear HB;have HB:=n0_;clear n0_;(try clear hb);(try clear hb2);(try clear hk);(try clear hi)))
           go_ret
           exact ⟨by first|rfl|(simp [errW_none,errW_some] <;> rfl)|(simp [*,errW_none,errW_some] <;> rfl),by repeat (first|(with_reducible first|exact HB.out|apply za_|apply zn_|apply zd_)|exact HB.out)⟩
          ·rw [if_neg c117] at H
           have c117b0 : (t267 == t275) = false:=by simpa using c117
           (try (have c117b1 : decide (t267 = t275) = false:=by simpa using c117))
           (try (have c117b2 : (t267 == t275) = false:=by simpa using c117))
           (try (have c117b3 : ¬ (t267 = t275):=by simpa using c117))
           clear c117
           obtain rfl:=Option.some.inj H
           go_wp2_with (first|((with_reducible refine gate_callee (f:=22) rfl ?_);refine goesL_ (some 106) rfl rfl Try.func22 (by kernel_rfl) rfl #[.string t265,.string t264] rfl (by (try simp only [List.map_toArray,List.map_cons,List.map_nil]);first|done|rfl|(simp only [List.length_drop,List.length_take];rfl)) ?_;(with_reducible refine (impl_JoinSets.calls k2 t265 t264 t274 t275 _ A110.out).mono ?_);rintro e w119 ⟨rfl,hb⟩;refine ⟨_,rfl,?_⟩;have n0_:=zm_ (below_step (by repeat (first|(with_reducible first|exact HB.out|apply za_|apply zn_|apply zd_)|exact HB.out)) hb);clear HB;have HB:=n0_;clear n0_;(try clear hb);(try clear hb2);(try clear hk);(try clear hi)))
           go_ret
           exact ⟨by first|rfl|(simp [errW_none,errW_some] <;> rfl)|(simp [*,errW_none,errW_some] <;> rfl),by repeat (first|(with_reducible first|exact HB.out|apply za_|apply zn_|apply zd_)|exact HB.out)⟩

/-- THE ONE PURE STATEMENT of laws_FnSetsJoined: yours. -/
def laws_FnSetsJoined.Pure : Prop:=∀ (l0 : List Int),l0.length ≤ maxLen → l0.length * 1 ≤ 140737488351232 → (∀ x ∈ l0,(Lit.int .u8 x).wf = true) → ∃ k,laws_FnSetsJoined.f k l0 = some true
theorem laws_FnSetsJoined.walk (P : laws_FnSetsJoined.Pure) (a0 : Option Addr) (len0 cap0 : Nat) (z0 : List Int) (w : World) (w0 : (a0 = none ∧ len0 = 0 ∧ cap0 = 0 ∧ z0 = []) ∨ ∃ x,a0 = some x ∧ len0 ≤ cap0 ∧ cap0 ≤ maxLen ∧ z0.length = cap0 ∧ (∀ i,i < z0.length → w.cell? (x.add i) = some (.int .u8 (z0.getD i 0))) ∧ ∀ n ∈ z0,(Lit.int .u8 n).wf = true) (y0 : len0 * 1 ≤ 140737488351232) :
  Calls Try.prog 11 #[.slice a0 len0 cap0] w fun e w' => e = .returned (.bool true) ∧ Below w.heap.size w w':=by
 obtain ⟨l0,rfl,hr0,hm0,hw0,hc0⟩:=ReadsInt.ofRowC w0
 obtain ⟨k,h⟩:=P l0 hm0 y0 hw0
 refine (laws_FnSetsJoined.calls k _ _ l0 true w (Kd.C_of_reads (d:=(0 : Int)) (h1:=fun _ => rfl) hr0) hc0 h).mono ?_
 rintro e w' ⟨rfl,hd⟩
 exact ⟨rfl,hd⟩

end Go.Proofs.Ytbkncnlehlldeaa.MFnSetsJoined
