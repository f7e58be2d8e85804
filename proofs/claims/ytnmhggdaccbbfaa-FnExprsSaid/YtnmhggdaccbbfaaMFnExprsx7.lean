import Derived.Test.YtnmhggdaccbbfaaMFnExprsx0
import Derived.Test.YtnmhggdaccbbfaaMFnExprsx1
import Derived.Test.YtnmhggdaccbbfaaMFnExprsx6
namespace Go.Proofs.Ytnmhggdaccbbfaa.MFnExprs
open Go.RowKit Go.Proofs.YtnmhggdaccbbfaaW.PrintWords Go.Proofs.YtnmhggdaccbbfaaW.PrintLast Go.Proofs.YtnmhggdaccbbfaaW.PrintMore
attribute [local go_sem] max2_int min2_int max_two min_two max_three min_three max_four min_four
set_option linter.unusedVariables false
set_option linter.unusedSimpArgs false

def spec_DrawEnv.f (k : Nat) (l0 : List Int) : Option ((List (S87))):=(spec_l01New.f k l0).bind fun bt287 => ((spec_l03Env.f k bt287.1 bt287.2.1 bt287.2.2).bind fun bt291 => (some bt291.1))
theorem spec_DrawEnv.mono : ∀ a0 k,LeO (spec_DrawEnv.f k a0) (spec_DrawEnv.f (k + 1) a0):=by
 intro a0 k
 unfold spec_DrawEnv.f
 repeat' first
   |(with_reducible exact spec_l01New.mono _ _)
   |(with_reducible exact spec_l03Env.mono _ _ _ _)
   |(with_reducible exact LeO.refl _)
   |(with_reducible exact LeO.none _)
   |(with_reducible refine LeO.ite ?_ ?_)
   |(with_reducible refine LeO.bind ?_ (fun _ => ?_))
set_option maxHeartbeats 8000000 in
set_option maxRecDepth 100000 in
theorem spec_DrawEnv.calls (k : Nat) (A0 : Option Addr) (c0 : Nat) (l0 : List Int) (r : List (S87)) (w : World) (hr0 : Kd.C (Kd.int .u8) w A0 l0.length l0) (hc0 : l0.length ≤ c0) (h : spec_DrawEnv.f k l0 = some r) :
  Calls Try.prog 17 #[.slice A0 l0.length c0] w fun e w' => ∃ v0_ : Value,e = .returned (v0_) ∧ Kd.R k87 87 w' w.heap.size (fun _ => True) v0_ r ∧ Below w.heap.size w w':=by
 have HR0:=zm_ hr0
 have HC0:=zm_ hc0
 clear hr0 hc0
 have HB:=zm_ (Below.refl w.heap.size w)
 have H : ((spec_l01New.f k l0).bind fun bt287 => ((spec_l03Env.f k bt287.1 bt287.2.1 bt287.2.2).bind fun bt291 => (some bt291.1))) = some r:=h
 clear h
 replace H:=Option.bind_eq_some_iff.mp H
 obtain ⟨⟨t287,t288,t289⟩,A20,H⟩:=H
 replace H : ((spec_l03Env.f k t287 t288 t289).bind fun bt291 => (some bt291.1)) = some r:=H
 have A2:=zm_ A20
 clear A20
 replace H:=Option.bind_eq_some_iff.mp H
 obtain ⟨⟨t291,t294,t295⟩,A30,H⟩:=H
 replace H : (some t291) = some r:=H
 have A3:=zm_ A30
 clear A30
 obtain rfl:=Option.some.inj H
 go_enter Try.func17,Try.ntmps17
 go_wp2_with (first|((with_reducible refine gate_callee (f:=41) rfl ?_);refine goesL_ (some 4) rfl rfl Try.func41 (by kernel_rfl) rfl #[.slice A0 l0.length c0] rfl zq_ ?_;(with_reducible refine (spec_l01New.calls k _ _ l0 t287 t288 t289 w _ ?side1 ?side2 ?side3 A2.out).mono ?_);(case side1 => repeat (first|(with_reducible first|exact HB.out|apply za_|apply zn_|apply zd_)|exact HB.out));(case side2 => exact HR0.out);(case side3 => exact HC0.out);rintro e w4 ⟨g290,rfl,hi,hb,hb2⟩;refine ⟨_,rfl,?_⟩;have n0_:=zm_ (hb);have n1_:=zm_ (hi);clear HB;have HB:=n0_;have HI290:=n1_;clear n0_ n1_;(try clear hb);(try clear hb2);(try clear hk);(try clear hi))|((with_reducible refine gate_callee (f:=54) rfl ?_);refine goesL_ (some 5) rfl rfl Try.func54 (by kernel_rfl) rfl #[.pointer (some ⟨g290,0,none⟩)] rfl zq_ ?_;(with_reducible refine (spec_l03Env.calls k g290 t287 t288 t289 t291 t294 t295 w _ ?side1 ?side2 A3.out).mono ?_);(case side1 => repeat (first|(with_reducible first|exact HI290.out|apply IsS109.alloc|apply IsS109.drewN|apply IsS109.drew|apply IsS109.set_1|apply IsS109.set_2)|exact HI290.out));(case side2 => repeat (first|(with_reducible first|exact HB.out|apply za_|apply zn_|apply zd_|refine zs_ ?_ (IsS109.ge HI290.out))|exact HB.out));rintro e w5 ⟨v292,rfl,ho0,hi,hb,hk⟩;refine ⟨_,rfl,?_⟩;have n0_:=zm_ (Kd.R_lower ho0 (below_size (by repeat (first|(with_reducible first|exact HB.out|apply za_|apply zn_|apply zd_|refine zs_ ?_ (IsS109.ge HI290.out))|exact HB.out))));have n1_:=zm_ (hb);have n2_:=zm_ (hi);clear HB;clear HI290;have HO293:=n0_;have HB:=n1_;have HI290:=n2_;clear n0_ n1_ n2_;(try clear hb);(try clear hb2);(try clear hk);(try clear hi);(try clear ho0)))
 go_ret
 exact ⟨_,by first|rfl|(simp [errW_none,errW_some] <;> rfl)|(simp [*,errW_none,errW_some] <;> rfl),by (with_reducible repeat (first|apply Kd.R_alloc|apply Kd.R_drewN|apply Kd.R_drew));exact HO293.out,by repeat (first|(with_reducible first|exact HB.out|apply za_|apply zn_|apply zd_|refine zs_ ?_ (IsS109.ge HI290.out))|exact HB.out)⟩

end Go.Proofs.Ytnmhggdaccbbfaa.MFnExprs
