import Derived.Test.YtnmhggdaccbbfaaMFnExprFreex0
import Derived.Test.YtnmhggdaccbbfaaMFnExprFreex1
import Derived.Test.YtnmhggdaccbbfaaMFnExprFreex2
import Derived.Test.YtnmhggdaccbbfaaMFnExprFreex4
import Derived.Test.YtnmhggdaccbbfaaMFnExprFreex5
import Derived.Test.YtnmhggdaccbbfaaMFnExprFreex7
import Derived.Test.YtnmhggdaccbbfaaMFnExprFreex9
import Derived.Test.YtnmhggdaccbbfaaMFnExprFreex10
import Derived.Test.YtnmhggdaccbbfaaMFnExprFreex12
namespace Go.Proofs.Ytnmhggdaccbbfaa.MFnExprFree
open Go.RowKit Go.Proofs.YtnmhggdaccbbfaaW.PrintWords Go.Proofs.YtnmhggdaccbbfaaW.PrintLast Go.Proofs.YtnmhggdaccbbfaaW.PrintMore
attribute [local go_sem] max2_int min2_int max_two min_two max_three min_three max_four min_four
set_option linter.unusedVariables false
set_option linter.unusedSimpArgs false
theorem zt13_12 {p : Prop} (h : p := by (with_reducible repeat (first|apply Kd.R_alloc|apply Kd.R_drewN|apply Kd.R_drew));exact HO442.out) : p := h
theorem zt13_11 {p : Prop} (h : p := by (with_reducible repeat (first|apply Kd.R_alloc|apply Kd.R_drewN|apply Kd.R_drew));exact HO415.out) : p := h
theorem zt13_10 {p : Prop} (h : p := by (with_reducible repeat (first|apply Kd.N_alloc|apply Kd.N_drewN|apply Kd.N_drew));exact HO411.out) : p := h
theorem zt13_9 {p : Prop} (h : p := by (with_reducible repeat (first|apply Kd.R_alloc|apply Kd.R_drewN|apply Kd.R_drew));exact HO438.out) : p := h
theorem zt13_8 {p : Prop} (h : p := by (with_reducible repeat first|refine zl_ ?_ _|refine zr_ ?_|refine zk_ ?_ _);exact BK432.out) : p := h
theorem zt13_7 {p : Prop} (h : p := by (with_reducible repeat (first|apply Kd.N_alloc|apply Kd.N_drewN|apply Kd.N_drew));exact HO431.out) : p := h
theorem zt13_6 {p : Prop} (h : p := by (with_reducible repeat (first|apply Kd.R_alloc|apply Kd.R_drewN|apply Kd.R_drew));exact HO435.out) : p := h
theorem zt13_5 {p : Prop} (h : p := by (with_reducible repeat (first|apply Kd.N_alloc|apply Kd.N_drewN|apply Kd.N_drew));exact HO_413000.out) : p := h
theorem zt13_4 {p : Prop} (h : p := by (with_reducible repeat first|refine zl_ ?_ _|refine zr_ ?_|refine zk_ ?_ _);exact BK412.out) : p := h
theorem zt13_3 {p : Prop} (h : p := by (with_reducible repeat (first|apply Kd.R_alloc|apply Kd.R_drewN|apply Kd.R_drew));exact HO_5.out) : p := h
theorem zt13_2 {p : Prop} (h : p := by repeat (first|(with_reducible first|exact HB.out|apply za_|apply zn_|apply zd_|refine zs_ ?_ GE412.out)|exact HB.out)) : p := h
theorem zt13_1 {p : Prop} (h : p := by repeat (first|(with_reducible first|exact HB.out|apply za_|apply zn_|apply zd_|refine zs_ ?_ GE412.out|refine zs_ ?_ GE432.out)|exact HB.out)) : p := h

def laws_FnExprFree.l0 : Nat → List Int → List ByteArray → Int → Bool → Int → Bool → Int → List (S34) → Option (Bool)
 |0,_,_,_,_,_,_,_,_ => none
 |k + 1,x0,x5,x6,x7,x8,x9,x10,x413000 => if x10 < (x413000.length : Int) then (if 0 ≤ x10 then (if ((rd_T34 x413000 x10).f0) = 2 then ((laws_has.f k x5 ((rd_T34 x413000 x10).f2)).bind fun t428 => (if t428 = true then (laws_FnExprFree.l0 k x0 x5 x6 x7 x8 x9 (wrap64 (x10 + 1)) x413000) else (none))) else (laws_FnExprFree.l0 k x0 x5 x6 x7 x8 x9 (wrap64 (x10 + 1)) x413000)) else (none)) else ((spec_DrawFreeOf.f k x0).bind fun t429 => (if (x7 == x9) = true then (if x6 = x8 then ((impl_FreeOf.f k t429).bind fun t433 => ((spec_FreeOf.f k t429).bind fun t436 => ((laws_sameTexts.f k t433 t436).bind fun t439 => (if t439 = true then ((spec_FreeOf.f k x413000).bind fun t440 => ((laws_sameTexts.f k x5 t440).bind fun t443 => (if t443 = true then (if (x5.length : Int) > 0 then ((impl_ExprOk.f k x413000).bind fun t444 => (some t444)) else ((spec_FreeOf.f k x413000).bind fun t445 => (if (t445.length : Int) = 0 then ((impl_ExprOk.f k x413000).bind fun t448 => (some t448)) else (none)))) else (none)))) else (none))))) else (none)) else (none)))
def laws_FnExprFree.f (k : Nat) (l0 : List Int) : Option (Bool):=(laws_big.f l0).bind fun t408 => (if t408 = true then (some true) else ((spec_DrawExpr.f k l0).bind fun t409 => ((spec_DrawEnv.f k l0).bind fun t413 => ((impl_FreeOf.f k t409).bind fun t416 => ((impl_EvalExpr.f k t409 t413 3).bind fun bt419 => ((spec_EnvOnly.f k t413 t416).bind fun t421 => ((impl_EvalExpr.f k t409 t421 3).bind fun bt424 => (laws_FnExprFree.l0 k l0 t416 bt419.1 bt419.2 bt424.1 bt424.2 0 t409))))))))
theorem laws_FnExprFree.mono_l : ∀ k,(∀ y0 y1 y2 y3 y4 y5 y6 y7,LeO (laws_FnExprFree.l0 k y0 y1 y2 y3 y4 y5 y6 y7) (laws_FnExprFree.l0 (k + 1) y0 y1 y2 y3 y4 y5 y6 y7))
 |0 => fun _ _ _ _ _ _ _ _ r h => by simp [laws_FnExprFree.l0] at h
 |k + 1 => by
  have ih0:=laws_FnExprFree.mono_l k
  ·intro y0 y1 y2 y3 y4 y5 y6 y7
   unfold laws_FnExprFree.l0
   repeat' first
   |(with_reducible exact ih0 _ _ _ _ _ _ _ _)
   |(with_reducible exact impl_EvalExpr.mono _ _ _ _)
   |(with_reducible exact impl_ExprOk.mono _ _)
   |(with_reducible exact impl_FreeOf.mono _ _)
   |(with_reducible exact laws_has.mono _ _ _)
   |(with_reducible exact laws_sameTexts.mono _ _ _)
   |(with_reducible exact spec_DrawEnv.mono _ _)
   |(with_reducible exact spec_DrawExpr.mono _ _)
   |(with_reducible exact spec_DrawFreeOf.mono _ _)
   |(with_reducible exact spec_EnvOnly.mono _ _ _)
   |(with_reducible exact spec_FreeOf.mono _ _)
   |(with_reducible exact LeO.refl _)
   |(with_reducible exact LeO.none _)
   |(with_reducible refine LeO.ite ?_ ?_)
   |(with_reducible refine LeO.bind ?_ (fun _ => ?_))
theorem laws_FnExprFree.mono : ∀ a0 k,LeO (laws_FnExprFree.f k a0) (laws_FnExprFree.f (k + 1) a0):=by
 intro a0 k
 have ih0:=laws_FnExprFree.mono_l k
 unfold laws_FnExprFree.f
 repeat' first
   |(with_reducible exact ih0 _ _ _ _ _ _ _ _)
   |(with_reducible exact impl_EvalExpr.mono _ _ _ _)
   |(with_reducible exact impl_ExprOk.mono _ _)
   |(with_reducible exact impl_FreeOf.mono _ _)
   |(with_reducible exact laws_has.mono _ _ _)
   |(with_reducible exact laws_sameTexts.mono _ _ _)
   |(with_reducible exact spec_DrawEnv.mono _ _)
   |(with_reducible exact spec_DrawExpr.mono _ _)
   |(with_reducible exact spec_DrawFreeOf.mono _ _)
   |(with_reducible exact spec_EnvOnly.mono _ _ _)
   |(with_reducible exact spec_FreeOf.mono _ _)
   |(with_reducible exact LeO.refl _)
   |(with_reducible exact LeO.none _)
   |(with_reducible refine LeO.ite ?_ ?_)
   |(with_reducible refine LeO.bind ?_ (fun _ => ?_))
def laws_FnExprFree.T7 : Bool × List (List Nat × List Nat):=(true,[([],[]),([],[]),([],[]),([1,2],[1,2]),([0,3,3],[0,3]),([4],[4]),([5],[5]),([5],[5]),([6,4,0,1,2,3,4,5,6],[6]),([7,8,0,1,2,3,4,5,6,7,8],[7])])
def laws_FnExprFree.B7 : List Nat:=[0,0,0,6,15,31,63,63,127,511]
theorem laws_FnExprFree.tab7 : rtab .any (opsOf Try.f8 7) = laws_FnExprFree.T7:=by kernel_rfl
theorem laws_FnExprFree.bits7 : waitsOk laws_FnExprFree.T7.2 laws_FnExprFree.B7 = true:=by kernel_rfl
def laws_FnExprFree.T14 : Bool × List (List Nat × List Nat):=(true,[([],[]),([],[]),([0,1],[0,1]),([2],[2]),([3],[3]),([3],[3]),([4,5,3],[3,4,5]),([3,6],[3,6]),([7,3],[7]),([8],[8]),([9,8,8],[8,9]),([8],[8]),([11,10,8],[8,11]),([10,12,12,8],[8,10,12]),([8,13],[8,13]),([14,13],[14]),([15],[15]),([15],[15]),([17,15,15],[15,17]),([16,18,18,15],[15,16,18]),([15,19],[15,19]),([20,19],[20]),([21],[21]),([22,21],[21,22]),([23,21],[21,23]),([24,21,21],[21,24]),([25],[25]),([26,25,25],[25,26]),([27,25],[25,27]),([28,25],[25,28]),([25,29,21],[21,25,29]),([21,30],[21,30]),([31,27],[31]),([32],[32]),([33,32,32],[32,33]),([32,34],[32,34]),([35,34,0,1,2,3,4,5,6,7,8,9,10,11,12,13,14,15,16,17,18,19,20,21,22,23,24,25,26,27,28,29,30,31,32,33,34,35],[35])])
def laws_FnExprFree.B14 : List Nat:=[0,0,3,7,15,15,63,127,255,511,1023,511,4095,8191,16383,32767,65535,65535,196607,524287,1048575,2097151,4194303,8388607,16777215,33554431,67108863,134217727,268435455,536870911,1073741823,2147483647,4294967295,8589934591,17179869183,34359738367,68719476735]
theorem laws_FnExprFree.tab14 : rtab .any (opsOf Try.f8 14) = laws_FnExprFree.T14:=by kernel_rfl
theorem laws_FnExprFree.bits14 : waitsOk laws_FnExprFree.T14.2 laws_FnExprFree.B14 = true:=by kernel_rfl
set_option maxHeartbeats 8000000 in
set_option maxRecDepth 100000 in
theorem laws_FnExprFree.calls (k : Nat) (A0 : Option Addr) (c0 : Nat) (l0 : List Int) (r : Bool) (w : World) (hr0 : Kd.C (Kd.int .u8) w A0 l0.length l0) (hc0 : l0.length ≤ c0) (h : laws_FnExprFree.f k l0 = some r) :
  Calls Try.prog 8 #[.slice A0 l0.length c0] w fun e w' => e = .returned (.bool r) ∧ Below w.heap.size w w':=by
 have hu28:=Try.underlying28
 have HR0:=zm_ hr0
 have HC0:=zm_ hc0
 clear hr0 hc0
 have HB:=zm_ (Below.refl w.heap.size w)
 have H : ((laws_big.f l0).bind fun t408 => (if t408 = true then (some true) else ((spec_DrawExpr.f k l0).bind fun t409 => ((spec_DrawEnv.f k l0).bind fun t413 => ((impl_FreeOf.f k t409).bind fun t416 => ((impl_EvalExpr.f k t409 t413 3).bind fun bt419 => ((spec_EnvOnly.f k t413 t416).bind fun t421 => ((impl_EvalExpr.f k t409 t421 3).bind fun bt424 => (laws_FnExprFree.l0 k l0 t416 bt419.1 bt419.2 bt424.1 bt424.2 0 t409))))))))) = some r:=h
 clear h
 replace H:=Option.bind_eq_some_iff.mp H
 obtain ⟨t408,A20,H⟩:=H
 replace H : (if t408 = true then (some true) else ((spec_DrawExpr.f k l0).bind fun t409 => ((spec_DrawEnv.f k l0).bind fun t413 => ((impl_FreeOf.f k t409).bind fun t416 => ((impl_EvalExpr.f k t409 t413 3).bind fun bt419 => ((spec_EnvOnly.f k t413 t416).bind fun t421 => ((impl_EvalExpr.f k t409 t421 3).bind fun bt424 => (laws_FnExprFree.l0 k l0 t416 bt419.1 bt419.2 bt424.1 bt424.2 0 t409)))))))) = some r:=H
 have A2:=zm_ A20
 clear A20
 by_cases c3 : t408 = true
 ·subst c3
  have H1 : (some true) = some r:=by rw [if_pos rfl] at H;exact H
  clear H
  have H:=H1
  clear H1
  obtain rfl:=Option.some.inj H
  go_enter Try.func8,Try.ntmps8
  go_wp2_with (first|((with_reducible refine gate_callee (f:=9) rfl ?_);refine goesL_ (some 13) rfl rfl Try.func9 (by kernel_rfl) rfl #[.slice A0 l0.length c0] rfl zq_ ?_;(with_reducible refine (laws_big.calls _ _ l0 true _ ?side1 ?side2 A2.out).mono ?_);(case side1 => exact zC_);(case side2 => exact HC0.out);rintro e w' ⟨rfl,⟨nd,rfl⟩⟩;refine ⟨_,rfl,?_⟩))
  go_ret
  exact ⟨zE_,by repeat (first|(with_reducible first|exact HB.out|apply za_|apply zn_|apply zd_)|exact HB.out)⟩
 ·replace c3:=Bool.eq_false_iff.mpr c3
  subst c3
  have H1 : ((spec_DrawExpr.f k l0).bind fun t409 => ((spec_DrawEnv.f k l0).bind fun t413 => ((impl_FreeOf.f k t409).bind fun t416 => ((impl_EvalExpr.f k t409 t413 3).bind fun bt419 => ((spec_EnvOnly.f k t413 t416).bind fun t421 => ((impl_EvalExpr.f k t409 t421 3).bind fun bt424 => (laws_FnExprFree.l0 k l0 t416 bt419.1 bt419.2 bt424.1 bt424.2 0 t409))))))) = some r:=by rw [if_neg (show ¬ (false = true) by decide)] at H;exact H
  clear H
  have H:=H1
  clear H1
  replace H:=Option.bind_eq_some_iff.mp H
  obtain ⟨t409,A40,H⟩:=H
  replace H : ((spec_DrawEnv.f k l0).bind fun t413 => ((impl_FreeOf.f k t409).bind fun t416 => ((impl_EvalExpr.f k t409 t413 3).bind fun bt419 => ((spec_EnvOnly.f k t413 t416).bind fun t421 => ((impl_EvalExpr.f k t409 t421 3).bind fun bt424 => (laws_FnExprFree.l0 k l0 t416 bt419.1 bt419.2 bt424.1 bt424.2 0 t409)))))) = some r:=H
  have A4:=zm_ A40
  clear A40
  replace H:=Option.bind_eq_some_iff.mp H
  obtain ⟨t413,A50,H⟩:=H
  replace H : ((impl_FreeOf.f k t409).bind fun t416 => ((impl_EvalExpr.f k t409 t413 3).bind fun bt419 => ((spec_EnvOnly.f k t413 t416).bind fun t421 => ((impl_EvalExpr.f k t409 t421 3).bind fun bt424 => (laws_FnExprFree.l0 k l0 t416 bt419.1 bt419.2 bt424.1 bt424.2 0 t409))))) = some r:=H
  have A5:=zm_ A50
  clear A50
  replace H:=Option.bind_eq_some_iff.mp H
  obtain ⟨t416,A60,H⟩:=H
  replace H : ((impl_EvalExpr.f k t409 t413 3).bind fun bt419 => ((spec_EnvOnly.f k t413 t416).bind fun t421 => ((impl_EvalExpr.f k t409 t421 3).bind fun bt424 => (laws_FnExprFree.l0 k l0 t416 bt419.1 bt419.2 bt424.1 bt424.2 0 t409)))) = some r:=H
  have A6:=zm_ A60
  clear A60
  replace H:=Option.bind_eq_some_iff.mp H
  obtain ⟨⟨t419,t420⟩,A70,H⟩:=H
  replace H : ((spec_EnvOnly.f k t413 t416).bind fun t421 => ((impl_EvalExpr.f k t409 t421 3).bind fun bt424 => (laws_FnExprFree.l0 k l0 t416 t419 t420 bt424.1 bt424.2 0 t409))) = some r:=H
  have A7:=zm_ A70
  clear A70
  replace H:=Option.bind_eq_some_iff.mp H
  obtain ⟨t421,A80,H⟩:=H
  replace H : ((impl_EvalExpr.f k t409 t421 3).bind fun bt424 => (laws_FnExprFree.l0 k l0 t416 t419 t420 bt424.1 bt424.2 0 t409)) = some r:=H
  have A8:=zm_ A80
  clear A80
  replace H:=Option.bind_eq_some_iff.mp H
  obtain ⟨⟨t424,t425⟩,A90,H⟩:=H
  replace H : (laws_FnExprFree.l0 k l0 t416 t419 t420 t424 t425 0 t409) = some r:=H
  have A9:=zm_ A90
  clear A90
  have H':=zm_ H
  clear H
  go_enter Try.func8,Try.ntmps8
  try go_wp2_with (first|((with_reducible refine gate_callee (f:=9) rfl ?_);refine goesL_ (some 13) rfl rfl Try.func9 (by kernel_rfl) rfl #[.slice A0 l0.length c0] rfl zq_ ?_;(with_reducible refine (laws_big.calls _ _ l0 false _ ?side1 ?side2 A2.out).mono ?_);(case side1 => exact zC_);(case side2 => exact HC0.out);rintro e w' ⟨rfl,⟨nd,rfl⟩⟩;refine ⟨_,rfl,?_⟩)|((with_reducible refine gate_callee (f:=16) rfl ?_);refine goesL_ (some 15) rfl rfl Try.func16 (by kernel_rfl) rfl #[.slice A0 l0.length c0] rfl zq_ ?_;(with_reducible refine (spec_DrawExpr.calls k _ _ l0 t409 _ ?side1 ?side2 A4.out).mono ?_);(case side1 => exact zC_);(case side2 => exact HC0.out);rintro e w10 ⟨v410,rfl,ho0,hb⟩;refine ⟨_,rfl,?_⟩;have n0_:=zm_ (Kd.N_lower (Kd.N_mono (ok':=fun k_ => True) (Kd.S_N (Kd.S_bound ho0)) (fun k_ hk_ => trivial)) (below_size zB_));have n1_:=zm_ (below_step zB_ hb);clear HB;have HO411:=n0_;have HB:=n1_;clear n0_ n1_;(try clear hb);(try clear hb2);(try clear hk);(try clear hi);(try clear ho0))|((with_reducible refine gate_dst (N:=3) rfl ?_);(try (refine gate_guard (by rfl) ?_;dsimp only));refine box_event ?hg (N:=3) ?hd (cs:=#[.slice none 0 0]) (t:=28) ?hr ?_;(case hd => rfl);(case hg => rfl);(case hr => first|(go_simp;done)|(go_simp;rfl));intro gb412 hg w11 hbox hb;have n0_:=zm_ (Kd.N_below (Kd.N_elderB zt13_10 gb412 (Nat.le_of_eq hg.symm)) hb);have n1_:=zm_ (below_step zB_ hb);have n2_:=zm_ (hbox);have n3_:=zm_ ((by rw [hg];exact (below_size zB_) : w.heap.size ≤ gb412));have n4_:=zm_ ((by rw [hg];exact (below_size zB_) : w.heap.size ≤ gb412));clear HO411;clear HB;have HO411:=n0_;have HB:=n1_;have BK412:=n2_;have GW412:=n3_;have GE412:=n4_;clear n0_ n1_ n2_ n3_ n4_;clear hb hbox hg;obtain ⟨Ao12,co12,eo12⟩:=Kd.N_slice HO411.out;subst eo12;have hcz13_0 : w11.cell? ⟨gb412,0,none⟩ = some (.slice none 0 0):=(zc_ BK412.out 0).trans rfl;have hfz13_0:=zf_ BK412.out 0)|((with_reducible refine gate_callee (f:=17) rfl ?_);refine goesL_ (some 17) rfl rfl Try.func17 (by kernel_rfl) rfl #[.slice A0 l0.length c0] rfl zq_ ?_;(with_reducible refine (spec_DrawEnv.calls k _ _ l0 t413 _ ?side1 ?side2 A5.out).mono ?_);(case side1 => exact Kd.C_below HR0.out zt13_2);(case side2 => exact HC0.out);rintro e w14 ⟨v414,rfl,ho0,hb⟩;refine ⟨_,rfl,?_⟩;have n0_:=zm_ (Kd.N_elder' (by (with_reducible repeat (first|apply Kd.N_alloc|apply Kd.N_drewN|apply Kd.N_drew));exact (Kd.N_mono (Kd.N_far (p:=⟨gb412,0,none⟩) (Kd.N_mono HO411.out (fun k_ hk => (⟨hk,hk.2⟩ : _ ∧ k_ ≠ gb412))) (fun _ hk => hk.2) (.slice Ao12 t409.length co12)) (fun _ h_ => h_.1))) (Kd.R_base ho0) hb);have n1_:=zm_ (Kd.R_lower ho0 (below_size zt13_2));have n2_:=zm_ (blk_below (g:=gb412) (o:=.cells #[.slice Ao12 t409.length co12] 28 (0,0)) (by (with_reducible repeat first|refine zl_ ?_ _|refine zr_ ?_|refine zk_ ?_ _);refine blk_put (cs:=#[.slice none 0 0]) ?_ 0 _ rfl;(with_reducible repeat first|refine zl_ ?_ _|refine zr_ ?_|refine zk_ ?_ _);exact BK412.out) hb);have n3_:=zm_ (below_step zt13_2 hb);clear HO411;clear BK412;clear HB;have HO411:=n0_;have HO415:=n1_;have BK412:=n2_;have HB:=n3_;clear n0_ n1_ n2_ n3_;(try clear hb);(try clear hb2);(try clear hk);(try clear hi);(try clear ho0);have hcz15_0 : w14.cell? ⟨gb412,0,none⟩ = some (.slice Ao12 t409.length co12):=(zc_ BK412.out 0).trans rfl;have hfz15_0:=zf_ BK412.out 0)|((with_reducible refine gate_callee (f:=32) rfl ?_);refine goesL_ (some 19) rfl rfl Try.func32 (by kernel_rfl) rfl #[.agg #[.slice Ao12 t409.length co12]] rfl zq_ ?_;(with_reducible refine (impl_FreeOf.calls k _ _ t409 t416 _ ?side1 ?side2 A6.out).mono ?_);(case side1 => repeat (first|exact (Kd.N_reads' HO411.out).2.2|(with_reducible refine Kd.C_alloc ?_ _)|(with_reducible refine Kd.C_drewN ?_ _)|(with_reducible refine Kd.C_drew ?_)));(case side2 => exact (Kd.N_reads' HO411.out).2.1);rintro e w16 ⟨v417,rfl,ho0,hb⟩;refine ⟨_,rfl,?_⟩;have n0_:=zm_ (Kd.N_elder' zt13_10 (Kd.R_base ho0) hb);have n1_:=zm_ (Kd.R_below zt13_11 hb);have n2_:=zm_ (Kd.R_lower ho0 (below_size zt13_2));have n3_:=zm_ (blk_below (g:=gb412) (o:=.cells #[.slice Ao12 t409.length co12] 28 (0,0)) zt13_4 hb);have n4_:=zm_ (below_step zt13_2 hb);clear HO411;clear HO415;clear BK412;clear HB;have HO411:=n0_;have HO415:=n1_;have HO418:=n2_;have BK412:=n3_;have HB:=n4_;clear n0_ n1_ n2_ n3_ n4_;(try clear hb);(try clear hb2);(try clear hk);(try clear hi);(try clear ho0);have hcz17_0 : w16.cell? ⟨gb412,0,none⟩ = some (.slice Ao12 t409.length co12):=(zc_ BK412.out 0).trans rfl;have hfz17_0:=zf_ BK412.out 0;obtain ⟨Ao18,co18,eo18⟩:=Kd.R_slice HO415.out;subst eo18)|((with_reducible refine gate_callee (f:=12) rfl ?_);refine goesL_ (some 23) rfl rfl Try.func12 (by kernel_rfl) rfl #[.agg #[.slice Ao12 t409.length co12],.slice Ao18 t413.length co18,.int .i64 3] rfl zq_ ?_;(with_reducible refine (impl_EvalExpr.calls k _ _ t409 _ _ t413 3 t419 t420 _ ?side1 ?side2 ?side3 ?side4 A7.out).mono ?_);(case side1 => repeat (first|exact (Kd.N_reads' HO411.out).2.2|(with_reducible refine Kd.C_alloc ?_ _)|(with_reducible refine Kd.C_drewN ?_ _)|(with_reducible refine Kd.C_drew ?_)));(case side2 => exact (Kd.N_reads' HO411.out).2.1);(case side3 => repeat (first|exact (Kd.R_reads' HO415.out).2.2|(with_reducible refine Kd.C_alloc ?_ _)|(with_reducible refine Kd.C_drewN ?_ _)|(with_reducible refine Kd.C_drew ?_)));(case side4 => exact (Kd.R_reads' HO415.out).2.1);rintro e w19 ⟨rfl,hb⟩;refine ⟨_,rfl,?_⟩;have n0_:=zm_ (Kd.N_below zt13_10 hb);have n1_:=zm_ (Kd.R_below zt13_11 hb);have n2_:=zm_ (Kd.R_below (by (with_reducible repeat (first|apply Kd.R_alloc|apply Kd.R_drewN|apply Kd.R_drew));exact HO418.out) hb);have n3_:=zm_ (blk_below (g:=gb412) (o:=.cells #[.slice Ao12 t409.length co12] 28 (0,0)) zt13_4 hb);have n4_:=zm_ (below_step zt13_2 hb);clear HO411;clear HO415;clear HO418;clear BK412;clear HB;have HO411:=n0_;have HO415:=n1_;have HO418:=n2_;have BK412:=n3_;have HB:=n4_;clear n0_ n1_ n2_ n3_ n4_;(try clear hb)))
  have n0_:=zm_ (Kd.N_drew HO411.out)
  have n1_:=zm_ (Kd.R_drew HO415.out)
  have n2_:=zm_ (Kd.R_drew HO418.out)
  have n3_:=zm_ (zr_ BK412.out)
  have n4_:=zm_ (zd_ HB.out)
  clear HO411
  clear HO415
  clear HO418
  clear BK412
  clear HB
  have HO411:=n0_
  have HO415:=n1_
  have HO418:=n2_
  have BK412:=n3_
  have HB:=n4_
  clear n0_ n1_ n2_ n3_ n4_
  obtain ⟨Ao21,co21,eo21⟩:=Kd.R_slice HO418.out
  (first|subst eo21|(injection eo21 with f1_ f2_ f3_;have f4_:=f1_.symm;have f5_:=f3_.symm;clear f1_ f2_ f3_;subst f4_;subst f5_))
  refine start_ (n:=10) (S:=fun w' => w'.cell? ⟨gb412,0,none⟩ = some (.slice Ao12 t409.length co12)) (ds:=[]) #[false,false,false,false,false,false,false,false,false,false] (by kernel_rfl) rfl rfl ((zc_ BK412.out 0).trans rfl) (fun hHeld => ?_);refine with_tabW laws_FnExprFree.tab7 laws_FnExprFree.bits7 (fun HT_ HW_ => ?_)
  generalize w19.drew = w20 at HO411 HO415 HO418 BK412 HB hHeld ⊢
  refine pure_ (i:=1) (N:=some 28) (v:=?_) (a':=?_) #[false,true,false,false,false,false,false,false,false,false] rfl rfl (any_of HT_.out (by kernel_rfl)) (fun _ _ _ h => h) (Or.inl ⟨by rfl,?_⟩) ?_ ?_
  rotate_left
  ·intro w'
   go_simp
   with_reducible rfl
  rotate_left
  ·simp only [Act.put,List.setIfInBounds_toArray,List.set_cons_zero,List.set_cons_succ,i64_w,i32_w,IntKind.wrap_u8]
   rfl
  refine pure_ (i:=2) (N:=some 29) (v:=?_) (a':=?_) #[false,true,true,false,false,false,false,false,false,false] rfl rfl (any_of HT_.out (by kernel_rfl)) (fun _ _ _ h => h) (Or.inl ⟨by rfl,?_⟩) ?_ ?_
  rotate_left
  ·intro w'
   go_simp
   with_reducible rfl
  rotate_left
  ·simp only [Act.put,List.setIfInBounds_toArray,List.set_cons_zero,List.set_cons_succ,i64_w,i32_w,IntKind.wrap_u8]
   rfl
  refine take_ (i:=0) (N:=some 27) (v:=?_) (a':=?_) #[true,true,true,false,false,false,false,false,false,false] rfl rfl (take_ofW HT_.out HW_.out (by kernel_rfl)) (fun _ _ _ h => h) (Or.inl ⟨by rfl,?_⟩) hHeld ?_ ?_
  rotate_left
  ·intro w' s0
   go_simp
   with_reducible rfl
  rotate_left
  ·simp only [Act.put,List.setIfInBounds_toArray,List.set_cons_zero,List.set_cons_succ,i64_w,i32_w,IntKind.wrap_u8]
   rfl
  refine one_ (i:=3) (N:=some 30) #[true,true,true,true,false,false,false,false,false,false] rfl rfl (one_of HT_.out (by kernel_rfl)) (by decide) (fun K hK => ?_)
  refine goes_ Try.func37 (by kernel_rfl) rfl #[.slice Ao18 t413.length co18,.slice Ao21 t416.length co21] (by rfl) rfl rfl zq_ ?_
  with_reducible refine (spec_EnvOnly.calls k _ _ t413 _ _ t416 t421 _ ?side1 ?side2 ?side3 ?side4 A8.out).mono ?_
  (case side1 => repeat (first|exact (Kd.R_reads' HO415.out).2.2|(with_reducible refine Kd.C_alloc ?_ _)|(with_reducible refine Kd.C_drewN ?_ _)|(with_reducible refine Kd.C_drew ?_)))
  (case side2 => exact (Kd.R_reads' HO415.out).2.1)
  (case side3 => repeat (first|exact (Kd.R_reads' HO418.out).2.2|(with_reducible refine Kd.C_alloc ?_ _)|(with_reducible refine Kd.C_drewN ?_ _)|(with_reducible refine Kd.C_drew ?_)))
  (case side4 => exact (Kd.R_reads' HO418.out).2.1)
  rintro e w22 ⟨v422,rfl,ho0,hb⟩
  refine ⟨_,rfl,?_⟩
  have n0_:=zm_ (Kd.N_elder' zt13_10 (Kd.R_base ho0) hb)
  have n1_:=zm_ (Kd.R_elder' zt13_11 (Kd.R_base ho0) hb)
  have n2_:=zm_ (Kd.R_below (by (with_reducible repeat (first|apply Kd.R_alloc|apply Kd.R_drewN|apply Kd.R_drew));exact HO418.out) hb)
  have n3_:=zm_ (Kd.R_lower (Kd.R_new' ho0 (Kd.R_lt zt13_11)) (below_size zt13_2))
  have n4_:=zm_ (blk_below (g:=gb412) (o:=.cells #[.slice Ao12 t409.length co12] 28 (0,0)) zt13_4 hb)
  have n5_:=zm_ (below_step zt13_2 hb)
  clear HO411
  clear HO415
  clear HO418
  clear BK412
  clear HB
  have HO411:=n0_
  have HO415:=n1_
  have HO418:=n2_
  have HO423:=n3_
  have BK412:=n4_
  have HB:=n5_
  clear n0_ n1_ n2_ n3_ n4_ n5_
  (try clear hb)
  (try clear hb2)
  (try clear hk)
  (try clear hi)
  (try clear ho0)
  obtain ⟨Ao23,co23,eo23⟩:=Kd.R_slice HO423.out
  (first|subst eo23|(injection eo23 with f1_ f2_ f3_;have f4_:=f1_.symm;have f5_:=f3_.symm;clear f1_ f2_ f3_;subst f4_;subst f5_))
  refine hK.out _ _ ((zc_ BK412.out 0).trans rfl) (fun hHeld => ?_)
  clear hK K
  refine norm_ (a':=?_) ?_ ?_
  rotate_left
  ·show Act.put _ (some 30) _ = _
   simp only [Act.put,List.setIfInBounds_toArray,List.set_cons_zero,List.set_cons_succ,i64_w,i32_w,IntKind.wrap_u8]
   rfl
  refine one_ (i:=4) (N:=some 31) #[true,true,true,true,true,false,false,false,false,false] rfl rfl (one_of HT_.out (by kernel_rfl)) (by decide) (fun K hK => ?_)
  refine goes_ Try.func12 (by kernel_rfl) rfl #[.agg #[.slice Ao12 t409.length co12],.slice Ao23 t421.length co23,.int .i64 3] (by rfl) rfl rfl zq_ ?_
  with_reducible refine (impl_EvalExpr.calls k _ _ t409 _ _ t421 3 t424 t425 _ ?side1 ?side2 ?side3 ?side4 A9.out).mono ?_
  (case side1 => repeat (first|exact (Kd.N_reads' HO411.out).2.2|(with_reducible refine Kd.C_alloc ?_ _)|(with_reducible refine Kd.C_drewN ?_ _)|(with_reducible refine Kd.C_drew ?_)))
  (case side2 => exact (Kd.N_reads' HO411.out).2.1)
  (case side3 => repeat (first|exact (Kd.R_reads' HO423.out).2.2|(with_reducible refine Kd.C_alloc ?_ _)|(with_reducible refine Kd.C_drewN ?_ _)|(with_reducible refine Kd.C_drew ?_)))
  (case side4 => exact (Kd.R_reads' HO423.out).2.1)
  rintro e w24 ⟨rfl,hb⟩
  refine ⟨_,rfl,?_⟩
  have n0_:=zm_ (Kd.N_below zt13_10 hb)
  have n1_:=zm_ (Kd.R_below zt13_11 hb)
  have n2_:=zm_ (Kd.R_below (by (with_reducible repeat (first|apply Kd.R_alloc|apply Kd.R_drewN|apply Kd.R_drew));exact HO418.out) hb)
  have n3_:=zm_ (Kd.R_below (by (with_reducible repeat (first|apply Kd.R_alloc|apply Kd.R_drewN|apply Kd.R_drew));exact HO423.out) hb)
  have n4_:=zm_ (blk_below (g:=gb412) (o:=.cells #[.slice Ao12 t409.length co12] 28 (0,0)) zt13_4 hb)
  have n5_:=zm_ (below_step zt13_2 hb)
  clear HO411
  clear HO415
  clear HO418
  clear HO423
  clear BK412
  clear HB
  have HO411:=n0_
  have HO415:=n1_
  have HO418:=n2_
  have HO423:=n3_
  have BK412:=n4_
  have HB:=n5_
  clear n0_ n1_ n2_ n3_ n4_ n5_
  (try clear hb)
  (try clear hb2)
  (try clear hk)
  (try clear hi)
  refine hK.out _ _ ((zc_ BK412.out 0).trans rfl) (fun hHeld => ?_)
  clear hK K
  refine norm_ (a':=?_) ?_ ?_
  rotate_left
  ·show Act.put _ (some 31) _ = _
   simp only [Act.put,List.setIfInBounds_toArray,List.set_cons_zero,List.set_cons_succ,i64_w,i32_w,IntKind.wrap_u8]
   rfl
  refine pure_ (i:=5) (N:=some 26) (v:=?_) (a':=?_) #[true,true,true,true,true,true,false,false,false,false] rfl rfl (any_of HT_.out (by kernel_rfl)) (fun _ _ _ h => h) (Or.inl ⟨by rfl,?_⟩) ?_ ?_
  rotate_left
  ·intro w'
   go_simp
   with_reducible rfl
  rotate_left
  ·simp only [Act.put,List.setIfInBounds_toArray,List.set_cons_zero,List.set_cons_succ,i64_w,i32_w,IntKind.wrap_u8]
   rfl
  refine pure_ (i:=6) (N:=some 32) (v:=?_) (a':=?_) #[true,true,true,true,true,true,true,false,false,false] rfl rfl (any_of HT_.out (by kernel_rfl)) (fun _ _ _ h => h) (Or.inl ⟨by rfl,?_⟩) ?_ ?_
  rotate_left
  ·intro w'
   go_simp
   with_reducible rfl
  rotate_left
  ·simp only [Act.put,List.setIfInBounds_toArray,List.set_cons_zero,List.set_cons_succ,i64_w,i32_w,IntKind.wrap_u8]
   rfl
  refine pure_ (i:=7) (N:=some 33) (v:=?_) (a':=?_) #[true,true,true,true,true,true,true,true,false,false] rfl rfl (any_of HT_.out (by kernel_rfl)) (fun _ _ _ h => h) (Or.inl ⟨by rfl,?_⟩) ?_ ?_
  rotate_left
  ·intro w'
   go_simp
   with_reducible rfl
  rotate_left
  ·simp only [Act.put,List.setIfInBounds_toArray,List.set_cons_zero,List.set_cons_succ,i64_w,i32_w,IntKind.wrap_u8]
   rfl
  refine pure_ (i:=8) (N:=some 8) (v:=?_) (a':=?_) #[true,true,true,true,true,true,true,true,true,false] rfl rfl (any_of HT_.out (by kernel_rfl)) (fun _ _ _ h => h) (Or.inl ⟨by rfl,?_⟩) ?_ ?_
  rotate_left
  ·intro w'
   go_simp
   with_reducible rfl
  rotate_left
  ·simp only [Act.put,List.setIfInBounds_toArray,List.set_cons_zero,List.set_cons_succ,i64_w,i32_w,IntKind.wrap_u8]
   rfl
  refine pure_ (i:=9) (N:=some 9) (v:=?_) (a':=?_) #[true,true,true,true,true,true,true,true,true,true] rfl rfl (any_of HT_.out (by kernel_rfl)) (fun _ _ _ h => h) (Or.inl ⟨by rfl,?_⟩) ?_ ?_
  rotate_left
  ·intro w'
   go_simp
   with_reducible rfl
  rotate_left
  ·simp only [Act.put,List.setIfInBounds_toArray,List.set_cons_zero,List.set_cons_succ,i64_w,i32_w,IntKind.wrap_u8]
   rfl
  refine done_ (done_of HT_.out (by kernel_rfl)) ?_
  try go_wp2
  go_loopg [10] k (fun kq v10 w' => ∃ (x10_1 : Int),v10 = .int .i64 x10_1 ∧ Aside0 (laws_FnExprFree.l0 kq l0 t416 t419 t420 t424 t425 x10_1 t409 = some r) ∧ Aside0 (kq ≤ k) ∧ Aside0 (Kd.R Kd.string 9 w' w.heap.size (fun _ => True) (.slice Ao21 t416.length co21) t416) ∧ Aside0 (Kd.N k34 34 w' w.heap.size (fun k_ => some k_ ≠ ((.slice Ao21 t416.length co21) : Value).ownBlock ∧ k_ ≠ gb412) (.slice Ao12 t409.length co12) t409) ∧ Aside0 (w'.heap[gb412]? = some (.cells #[(.slice Ao12 t409.length co12)] 28 (0,0))) ∧ Aside0 (Below w.heap.size w w'))
  case atStart => exact ⟨(0),zV_,H',⟨Nat.le_refl _⟩,⟨by (with_reducible repeat (first|apply Kd.R_alloc|apply Kd.R_drewN|apply Kd.R_drew));exact HO418.out⟩,⟨by (with_reducible repeat (first|apply Kd.N_alloc|apply Kd.N_drewN|apply Kd.N_drew));exact Kd.N_mono HO411.out (fun _ hk => ⟨hk.1.2,hk.1.1.1.2⟩)⟩,⟨by (with_reducible repeat first|refine zl_ ?_ _|refine zr_ ?_|refine zk_ ?_ _);exact BK412.out⟩,⟨by repeat (first|(with_reducible first|exact HB.out|apply za_|apply zn_|apply zd_|refine zs_ ?_ GE412.out)|exact HB.out)⟩⟩
  case round =>
   clear H'
   try clear c1
   try clear p2
   try clear c3
   try clear c8
   try clear c9
   try clear c12
   try clear c16
   try clear c17
   try clear hcz13_0
   try clear hcz15_0
   try clear hcz17_0
   try clear hfz13_0
   try clear hfz15_0
   try clear hfz17_0
   obtain ⟨x10_1,rfl,HA,HK1,HO_5,HO_413000,BK412,HB⟩:=hrel
   cases gk with
   |zero => exact absurd HA.out (by simp [laws_FnExprFree.l0])
   |succ k1 =>
    have H:=HA.out
    clear HA
    simp only [laws_FnExprFree.l0] at H
    by_cases c25 : x10_1 < (t409.length : Int)
    ·rw [if_pos c25] at H
     have c25b0 : decide (x10_1 < (t409.length : Int)) = true:=decide_eq_true c25
     clear c25
     by_cases c26 : 0 ≤ x10_1
     ·rw [if_pos c26] at H
      have c26b0 : decide (0 ≤ x10_1) = true:=decide_eq_true c26
      clear c26
      by_cases c27 : ((rd_T34 t409 x10_1).f0) = 2
      ·rw [if_pos c27] at H
       have c27b0 : (((rd_T34 t409 x10_1).f0) == 2) = true:=beq_iff_eq.mpr c27
       have c27b1 : (((rd_T34 t409 x10_1).f0) != 2) = false:=bne_eq_false_iff_eq.mpr c27
       clear c27
       replace H:=Option.bind_eq_some_iff.mp H
       obtain ⟨t428,A280,H⟩:=H
       replace H : (if t428 = true then (laws_FnExprFree.l0 k1 l0 t416 t419 t420 t424 t425 (wrap64 (x10_1 + 1)) t409) else (none)) = some r:=H
       have A28:=zm_ A280
       clear A280
       by_cases c29 : t428 = true
       ·subst c29
        have H1 : (laws_FnExprFree.l0 k1 l0 t416 t419 t420 t424 t425 (wrap64 (x10_1 + 1)) t409) = some r:=by rw [if_pos rfl] at H;exact H
        clear H
        have H:=H1
        clear H1
        have H':=zm_ H
        clear H
        have hcz30_0 : wr.cell? ⟨gb412,0,none⟩ = some (.slice Ao12 t409.length co12):=(zc_ BK412.out 0).trans rfl
        have hfz30_0:=zf_ BK412.out 0
        have p426 : 0 ≤ (x10_1 : Int):=zo_
        have q426 : x10_1 < (t409.length : Int):=zo_
        obtain ⟨ad426,A426_3,c426_3,e426,hx426_0,hx426_1,hx426_2,hx426_3,hl426_3,hi426_3⟩:=at_T34 (Kd.N_reads' HO_413000.out).2.2 x10_1 p426 q426
        cases e426
        obtain ⟨ce426,hce426,hMe426,hcc426⟩:=Kd.N_get HO_413000.out z34 x10_1 p426 (by first|exact q426|exact zo_|(have e_:=(Kd.N_reads' HO_413000.out).1;omega))
        obtain ⟨ua426_3,uc426_3,rfl,ul426_3,ge426_3⟩:=k34_openF hMe426
        have hv426_3:=hcc426 3 _ rfl
        rw [add_field _ _ 3 (by omega)] at hv426_3
        replace hv426_3:=Option.some.inj (hv426_3.symm.trans hx426_3)
        injection hv426_3 with hva_ hvn_ hvc_
        rw [hva_] at ge426_3
        rw [hvc_] at ul426_3
        have HL426_3:=zm_ (show Kd.V (Kd.int .i64) 3 _ w.heap.size _ _ ((rd_T34 t409 x10_1).f3) from Kd.V_mk ul426_3 ge426_3)
        clear hva_ hvn_ hvc_ ge426_3 ul426_3
        clear hcc426 hce426
        have HR426_3:=zm_ hi426_3
        have HC426_3:=zm_ hl426_3
        clear hi426_3 hl426_3
        replace p426:=eq_true p426
        replace q426:=eq_true q426
        have p427 : 0 ≤ (x10_1 : Int):=zo_
        have q427 : x10_1 < (t409.length : Int):=zo_
        obtain ⟨ad427,A427_3,c427_3,e427,hx427_0,hx427_1,hx427_2,hx427_3,hl427_3,hi427_3⟩:=at_T34 (Kd.N_reads' HO_413000.out).2.2 x10_1 p427 q427
        obtain rfl : ad426 = ad427:=(by injection e427)
        obtain ⟨ce427,hce427,hMe427,hcc427⟩:=Kd.N_get HO_413000.out z34 x10_1 p427 (by first|exact q427|exact zo_|(have e_:=(Kd.N_reads' HO_413000.out).1;omega))
        obtain ⟨ua427_3,uc427_3,rfl,ul427_3,ge427_3⟩:=k34_openF hMe427
        have hv427_3:=hcc427 3 _ rfl
        rw [add_field _ _ 3 (by omega)] at hv427_3
        replace hv427_3:=Option.some.inj (hv427_3.symm.trans hx427_3)
        injection hv427_3 with hva_ hvn_ hvc_
        rw [hva_] at ge427_3
        rw [hvc_] at ul427_3
        have HL427_3:=zm_ (show Kd.V (Kd.int .i64) 3 _ w.heap.size _ _ ((rd_T34 t409 x10_1).f3) from Kd.V_mk ul427_3 ge427_3)
        clear hva_ hvn_ hvc_ ge427_3 ul427_3
        clear hcc427 hce427
        have HR427_3:=zm_ hi427_3
        have HC427_3:=zm_ hl427_3
        clear hi427_3 hl427_3
        replace p427:=eq_true p427
        replace q427:=eq_true q427
        have ea_:=Option.some.inj (hx426_3.symm.trans hx427_3)
        injection ea_ with ea_ en_ ec_
        subst ea_
        subst ec_
        clear en_
        go_wp2_with (first|(go_at_call 38;(with_reducible refine (laws_has.calls k1 _ _ t416 ((rd_T34 t409 x10_1).f2) true _ ?side1 ?side2 A28.out).mono ?_);(case side1 => repeat (first|exact (Kd.R_reads' HO_5.out).2.2|(with_reducible refine Kd.C_alloc ?_ _)|(with_reducible refine Kd.C_drewN ?_ _)|(with_reducible refine Kd.C_drew ?_)));(case side2 => exact (Kd.R_reads' HO_5.out).2.1);rintro e w' ⟨rfl,⟨nd,rfl⟩⟩))
        go_roundg k1
        case measure => have:=HK1.out;omega
        case rel => exact ⟨(wrap64 (x10_1 + 1)),zV_,H',⟨by have:=HK1.out;omega⟩,⟨by (with_reducible repeat (first|apply Kd.R_alloc|apply Kd.R_drewN|apply Kd.R_drew));exact HO_5.out⟩,⟨by (with_reducible repeat (first|apply Kd.N_alloc|apply Kd.N_drewN|apply Kd.N_drew));exact HO_413000.out⟩,⟨by (with_reducible repeat first|refine zl_ ?_ _|refine zr_ ?_|refine zk_ ?_ _);exact BK412.out⟩,⟨by repeat (first|(with_reducible first|exact HB.out|apply za_|apply zn_|apply zd_|refine zs_ ?_ GE412.out)|exact HB.out)⟩⟩
       ·replace c29:=Bool.eq_false_iff.mpr c29
        subst c29
        have H1 : (none) = some r:=by rw [if_neg (show ¬ (false = true) by decide)] at H;exact H
        clear H
        have H:=H1
        clear H1
        exact absurd H (by simp)
      ·rw [if_neg c27] at H
       have c27b0 : (((rd_T34 t409 x10_1).f0) == 2) = false:=beq_eq_false_iff_ne.mpr c27
       have c27b1 : (((rd_T34 t409 x10_1).f0) != 2) = true:=bne_iff_ne.mpr c27
       have H':=zm_ H
       clear H
       have hcz31_0 : wr.cell? ⟨gb412,0,none⟩ = some (.slice Ao12 t409.length co12):=(zc_ BK412.out 0).trans rfl
       have hfz31_0:=zf_ BK412.out 0
       have p426 : 0 ≤ (x10_1 : Int):=zo_
       have q426 : x10_1 < (t409.length : Int):=zo_
       obtain ⟨ad426,A426_3,c426_3,e426,hx426_0,hx426_1,hx426_2,hx426_3,hl426_3,hi426_3⟩:=at_T34 (Kd.N_reads' HO_413000.out).2.2 x10_1 p426 q426
       cases e426
       obtain ⟨ce426,hce426,hMe426,hcc426⟩:=Kd.N_get HO_413000.out z34 x10_1 p426 (by first|exact q426|exact zo_|(have e_:=(Kd.N_reads' HO_413000.out).1;omega))
       obtain ⟨ua426_3,uc426_3,rfl,ul426_3,ge426_3⟩:=k34_openF hMe426
       have hv426_3:=hcc426 3 _ rfl
       rw [add_field _ _ 3 (by omega)] at hv426_3
       replace hv426_3:=Option.some.inj (hv426_3.symm.trans hx426_3)
       injection hv426_3 with hva_ hvn_ hvc_
       rw [hva_] at ge426_3
       rw [hvc_] at ul426_3
       have HL426_3:=zm_ (show Kd.V (Kd.int .i64) 3 _ w.heap.size _ _ ((rd_T34 t409 x10_1).f3) from Kd.V_mk ul426_3 ge426_3)
       clear hva_ hvn_ hvc_ ge426_3 ul426_3
       clear hcc426 hce426
       have HR426_3:=zm_ hi426_3
       have HC426_3:=zm_ hl426_3
       clear hi426_3 hl426_3
       replace p426:=eq_true p426
       replace q426:=eq_true q426
       go_wp2
       go_roundg k1
       case measure => have:=HK1.out;omega
       case rel => exact ⟨(wrap64 (x10_1 + 1)),zV_,H',⟨by have:=HK1.out;omega⟩,⟨by (with_reducible repeat (first|apply Kd.R_alloc|apply Kd.R_drewN|apply Kd.R_drew));exact HO_5.out⟩,⟨by (with_reducible repeat (first|apply Kd.N_alloc|apply Kd.N_drewN|apply Kd.N_drew));exact HO_413000.out⟩,⟨by (with_reducible repeat first|refine zl_ ?_ _|refine zr_ ?_|refine zk_ ?_ _);exact BK412.out⟩,⟨by repeat (first|(with_reducible first|exact HB.out|apply za_|apply zn_|apply zd_|refine zs_ ?_ GE412.out)|exact HB.out)⟩⟩
     ·rw [if_neg c26] at H
      exact absurd H (by simp)
    ·rw [if_neg c25] at H
     have c25b0 : decide (x10_1 < (t409.length : Int)) = false:=decide_eq_false c25
     clear c25
     replace H:=Option.bind_eq_some_iff.mp H
     obtain ⟨t429,A320,H⟩:=H
     replace H : (if (t420 == t425) = true then (if t419 = t424 then ((impl_FreeOf.f k1 t429).bind fun t433 => ((spec_FreeOf.f k1 t429).bind fun t436 => ((laws_sameTexts.f k1 t433 t436).bind fun t439 => (if t439 = true then ((spec_FreeOf.f k1 t409).bind fun t440 => ((laws_sameTexts.f k1 t416 t440).bind fun t443 => (if t443 = true then (if (t416.length : Int) > 0 then ((impl_ExprOk.f k1 t409).bind fun t444 => (some t444)) else ((spec_FreeOf.f k1 t409).bind fun t445 => (if (t445.length : Int) = 0 then ((impl_ExprOk.f k1 t409).bind fun t448 => (some t448)) else (none)))) else (none)))) else (none))))) else (none)) else (none)) = some r:=H
     have A32:=zm_ A320
     clear A320
     by_cases c33 : (t420 == t425) = true
     ·rw [if_pos c33] at H
      have c33b0 : (t420 == t425) = true:=c33
      (try (have c33b1 : decide (t420 = t425) = true:=by simpa using c33))
      (try (have c33b2 : (t420 == t425) = true:=by simpa using c33))
      clear c33
      by_cases c34 : t419 = t424
      ·rw [if_pos c34] at H
       have c34b0 : (t419 == t424) = true:=beq_iff_eq.mpr c34
       have c34b1 : (t419 != t424) = false:=bne_eq_false_iff_eq.mpr c34
       clear c34
       replace H:=Option.bind_eq_some_iff.mp H
       obtain ⟨t433,A350,H⟩:=H
       replace H : ((spec_FreeOf.f k1 t429).bind fun t436 => ((laws_sameTexts.f k1 t433 t436).bind fun t439 => (if t439 = true then ((spec_FreeOf.f k1 t409).bind fun t440 => ((laws_sameTexts.f k1 t416 t440).bind fun t443 => (if t443 = true then (if (t416.length : Int) > 0 then ((impl_ExprOk.f k1 t409).bind fun t444 => (some t444)) else ((spec_FreeOf.f k1 t409).bind fun t445 => (if (t445.length : Int) = 0 then ((impl_ExprOk.f k1 t409).bind fun t448 => (some t448)) else (none)))) else (none)))) else (none)))) = some r:=H
       have A35:=zm_ A350
       clear A350
       replace H:=Option.bind_eq_some_iff.mp H
       obtain ⟨t436,A360,H⟩:=H
       replace H : ((laws_sameTexts.f k1 t433 t436).bind fun t439 => (if t439 = true then ((spec_FreeOf.f k1 t409).bind fun t440 => ((laws_sameTexts.f k1 t416 t440).bind fun t443 => (if t443 = true then (if (t416.length : Int) > 0 then ((impl_ExprOk.f k1 t409).bind fun t444 => (some t444)) else ((spec_FreeOf.f k1 t409).bind fun t445 => (if (t445.length : Int) = 0 then ((impl_ExprOk.f k1 t409).bind fun t448 => (some t448)) else (none)))) else (none)))) else (none))) = some r:=H
       have A36:=zm_ A360
       clear A360
       replace H:=Option.bind_eq_some_iff.mp H
       obtain ⟨t439,A370,H⟩:=H
       replace H : (if t439 = true then ((spec_FreeOf.f k1 t409).bind fun t440 => ((laws_sameTexts.f k1 t416 t440).bind fun t443 => (if t443 = true then (if (t416.length : Int) > 0 then ((impl_ExprOk.f k1 t409).bind fun t444 => (some t444)) else ((spec_FreeOf.f k1 t409).bind fun t445 => (if (t445.length : Int) = 0 then ((impl_ExprOk.f k1 t409).bind fun t448 => (some t448)) else (none)))) else (none)))) else (none)) = some r:=H
       have A37:=zm_ A370
       clear A370
       by_cases c38 : t439 = true
       ·subst c38
        have H1 : ((spec_FreeOf.f k1 t409).bind fun t440 => ((laws_sameTexts.f k1 t416 t440).bind fun t443 => (if t443 = true then (if (t416.length : Int) > 0 then ((impl_ExprOk.f k1 t409).bind fun t444 => (some t444)) else ((spec_FreeOf.f k1 t409).bind fun t445 => (if (t445.length : Int) = 0 then ((impl_ExprOk.f k1 t409).bind fun t448 => (some t448)) else (none)))) else (none)))) = some r:=by rw [if_pos rfl] at H;exact H
        clear H
        have H:=H1
        clear H1
        replace H:=Option.bind_eq_some_iff.mp H
        obtain ⟨t440,A390,H⟩:=H
        replace H : ((laws_sameTexts.f k1 t416 t440).bind fun t443 => (if t443 = true then (if (t416.length : Int) > 0 then ((impl_ExprOk.f k1 t409).bind fun t444 => (some t444)) else ((spec_FreeOf.f k1 t409).bind fun t445 => (if (t445.length : Int) = 0 then ((impl_ExprOk.f k1 t409).bind fun t448 => (some t448)) else (none)))) else (none))) = some r:=H
        have A39:=zm_ A390
        clear A390
        replace H:=Option.bind_eq_some_iff.mp H
        obtain ⟨t443,A400,H⟩:=H
        replace H : (if t443 = true then (if (t416.length : Int) > 0 then ((impl_ExprOk.f k1 t409).bind fun t444 => (some t444)) else ((spec_FreeOf.f k1 t409).bind fun t445 => (if (t445.length : Int) = 0 then ((impl_ExprOk.f k1 t409).bind fun t448 => (some t448)) else (none)))) else (none)) = some r:=H
        have A40:=zm_ A400
        clear A400
        by_cases c41 : t443 = true
        ·subst c41
         have H1 : (if (t416.length : Int) > 0 then ((impl_ExprOk.f k1 t409).bind fun t444 => (some t444)) else ((spec_FreeOf.f k1 t409).bind fun t445 => (if (t445.length : Int) = 0 then ((impl_ExprOk.f k1 t409).bind fun t448 => (some t448)) else (none)))) = some r:=by rw [if_pos rfl] at H;exact H
         clear H
         have H:=H1
         clear H1
         by_cases c42 : (t416.length : Int) > 0
         ·rw [if_pos c42] at H
          have c42b0 : decide (0 < (t416.length : Int)) = true:=decide_eq_true c42
          have c42b1 : decide (0 < t416.length) = true:=decide_eq_true (by omega)
          clear c42
          replace H:=Option.bind_eq_some_iff.mp H
          obtain ⟨t444,A430,H⟩:=H
          replace H : (some t444) = some r:=H
          have A43:=zm_ A430
          clear A430
          obtain rfl:=Option.some.inj H
          have hcz44_0 : wr.cell? ⟨gb412,0,none⟩ = some (.slice Ao12 t409.length co12):=(zc_ BK412.out 0).trans rfl
          have hfz44_0:=zf_ BK412.out 0
          try go_wp2_with (first|((with_reducible refine gate_callee (f:=39) rfl ?_);refine goesL_ (some 60) rfl rfl Try.func39 (by kernel_rfl) rfl #[.slice A0 l0.length c0] rfl zq_ ?_;(with_reducible refine (spec_DrawFreeOf.calls k1 _ _ l0 t429 _ ?side1 ?side2 A32.out).mono ?_);(case side1 => exact zD_);(case side2 => exact HC0.out);rintro e w45 ⟨v430,rfl,ho0,hb⟩;refine ⟨_,rfl,?_⟩;have n0_:=zm_ (Kd.R_below zt13_3 hb);have n1_:=zm_ (Kd.N_elder' zt13_5 (Kd.N_base ho0) hb);have n2_:=zm_ (Kd.N_lower (Kd.N_mono (ok':=fun k_ => some k_ ≠ (.slice Ao21 t416.length co21 : Value).ownBlock ∧ some k_ ≠ (.slice Ao12 t409.length co12 : Value).ownBlock ∧ k_ ≠ gb412) ho0 (fun k_ hk_ => ⟨(Kd.fresh' (Kd.R_lt zt13_3) k_ hk_),(Kd.fresh' (Kd.N_lt zt13_5) k_ hk_),(Kd.freshB (g:=gb412) (o:=.cells #[.slice Ao12 t409.length co12] 28 (0,0)) zt13_4 k_ hk_)⟩)) (below_size zt13_2));have n3_:=zm_ (blk_below (g:=gb412) (o:=.cells #[.slice Ao12 t409.length co12] 28 (0,0)) zt13_4 hb);have n4_:=zm_ (below_step zt13_2 hb);clear HO_5;clear HO_413000;clear BK412;clear HB;have HO_5:=n0_;have HO_413000:=n1_;have HO431:=n2_;have BK412:=n3_;have HB:=n4_;clear n0_ n1_ n2_ n3_ n4_;(try clear hb);(try clear hb2);(try clear hk);(try clear hi);(try clear ho0))|((with_reducible refine gate_dst (N:=11) rfl ?_);(try (refine gate_guard (by rfl) ?_;dsimp only));refine box_event ?hg (N:=11) ?hd (cs:=#[.slice none 0 0]) (t:=28) ?hr ?_;(case hd => rfl);(case hg => rfl);(case hr => first|(go_simp;done)|(go_simp;rfl));intro gb432 hg w46 hbox hb;have n0_:=zm_ (Kd.R_below zt13_3 hb);have n1_:=zm_ (Kd.N_below (Kd.N_elderB zt13_5 gb432 (Nat.le_of_eq hg.symm)) hb);have n2_:=zm_ (Kd.N_below (Kd.N_elderB zt13_7 gb432 (Nat.le_of_eq hg.symm)) hb);have n3_:=zm_ (blk_below (g:=gb412) (o:=.cells #[.slice Ao12 t409.length co12] 28 (0,0)) zt13_4 hb);have n4_:=zm_ (below_step zt13_2 hb);have n5_:=zm_ (hbox);have n6_:=zm_ ((by rw [hg];exact (below_size zt13_2) : w.heap.size ≤ gb432));have n7_:=zm_ ((by rw [hg];exact (below_size zt13_2) : w.heap.size ≤ gb432));have n8_:=zm_ ((by rw [hg];exact Nat.ne_of_lt (blk_lt (g:=gb412) (o:=.cells #[.slice Ao12 t409.length co12] 28 (0,0)) zt13_4) : gb412 ≠ gb432));have n9_:=zm_ ((by rw [hg];exact Nat.ne_of_gt (blk_lt (g:=gb412) (o:=.cells #[.slice Ao12 t409.length co12] 28 (0,0)) zt13_4) : gb432 ≠ gb412));clear HO_5;clear HO_413000;clear HO431;clear BK412;clear HB;have HO_5:=n0_;have HO_413000:=n1_;have HO431:=n2_;have BK412:=n3_;have HB:=n4_;have BK432:=n5_;have GW432:=n6_;have GE432:=n7_;have NB412_432:=n8_;have NB432_412:=n9_;clear n0_ n1_ n2_ n3_ n4_ n5_ n6_ n7_ n8_ n9_;clear hb hbox hg;obtain ⟨Ao47,co47,eo47⟩:=Kd.N_slice HO431.out;subst eo47;have hnb48:=NB432_412.out;have hnc48:=NB412_432.out;have hcz49_0 : w46.cell? ⟨gb432,0,none⟩ = some (.slice none 0 0):=(zc_ BK432.out 0).trans rfl;have hfz49_0:=zf_ BK432.out 0))
          have n0_ : Aside0 (Kd.R Kd.string 9 (w46.setCell ⟨gb432,0,none⟩ (.slice Ao47 t429.length co47)) w.heap.size (fun _ => True) (.slice Ao21 t416.length co21) t416):=⟨by (with_reducible repeat (first|apply Kd.R_alloc|apply Kd.R_drewN|apply Kd.R_drew));exact Kd.R_mono (Kd.R_far (p:=⟨gb432,0,none⟩) (Kd.R_types HO_5.out BK432.out (by decide)) (fun _ hk => hk.2) (.slice Ao47 t429.length co47)) (fun _ hk => trivial)⟩
          have n1_ : Aside0 (Kd.N k34 34 (w46.setCell ⟨gb432,0,none⟩ (.slice Ao47 t429.length co47)) w.heap.size (fun k_ => some k_ ≠ (.slice Ao21 t416.length co21 : Value).ownBlock ∧ some k_ ≠ (.slice Ao47 t429.length co47 : Value).ownBlock ∧ k_ ≠ gb412 ∧ k_ ≠ gb432) (.slice Ao12 t409.length co12) t409):=⟨by (with_reducible repeat (first|apply Kd.N_alloc|apply Kd.N_drewN|apply Kd.N_drew));exact Kd.N_mono (Kd.N_far (p:=⟨gb432,0,none⟩) (Kd.N_mono HO_413000.out (fun k_ hk => (⟨hk,hk.2⟩ : _ ∧ k_ ≠ gb432))) (fun _ hk => hk.2) (.slice Ao47 t429.length co47)) (fun _ hk => ⟨hk.1.1.1.1,⟨hk.1.1.2,⟨hk.1.1.1.2,hk.1.2⟩⟩⟩)⟩
          have n2_ : Aside0 (Kd.N k34 34 (w46.setCell ⟨gb432,0,none⟩ (.slice Ao47 t429.length co47)) w.heap.size (fun k_ => some k_ ≠ (.slice Ao21 t416.length co21 : Value).ownBlock ∧ some k_ ≠ (.slice Ao12 t409.length co12 : Value).ownBlock ∧ k_ ≠ gb412 ∧ k_ ≠ gb432) (.slice Ao47 t429.length co47) t429):=⟨by (with_reducible repeat (first|apply Kd.N_alloc|apply Kd.N_drewN|apply Kd.N_drew));exact Kd.N_mono (Kd.N_far (p:=⟨gb432,0,none⟩) (Kd.N_mono HO431.out (fun k_ hk => (⟨hk,hk.2⟩ : _ ∧ k_ ≠ gb432))) (fun _ hk => hk.2) (.slice Ao47 t429.length co47)) (fun _ hk => ⟨hk.1.1.1,⟨hk.1.1.2.1,⟨hk.1.1.2.2,hk.1.2⟩⟩⟩)⟩
          have n3_ : Aside0 ((w46.setCell ⟨gb432,0,none⟩ (.slice Ao47 t429.length co47)).heap[gb412]? = some (.cells #[.slice Ao12 t409.length co12] 28 (0,0))):=⟨by (with_reducible repeat first|refine zl_ ?_ _|refine zr_ ?_|refine zk_ ?_ _);refine blk_far ?_ NB412_432.out _;(with_reducible repeat first|refine zl_ ?_ _|refine zr_ ?_|refine zk_ ?_ _);exact BK412.out⟩
          have n4_ : Aside0 ((w46.setCell ⟨gb432,0,none⟩ (.slice Ao47 t429.length co47)).heap[gb432]? = some (.cells #[.slice Ao47 t429.length co47] 28 (0,0))):=⟨by (with_reducible repeat first|refine zl_ ?_ _|refine zr_ ?_|refine zk_ ?_ _);refine blk_put (cs:=#[.slice none 0 0]) ?_ 0 _ rfl;(with_reducible repeat first|refine zl_ ?_ _|refine zr_ ?_|refine zk_ ?_ _);exact BK432.out⟩
          have n5_ : Aside0 (Below w.heap.size w (w46.setCell ⟨gb432,0,none⟩ (.slice Ao47 t429.length co47))):=⟨by repeat (first|(with_reducible first|exact HB.out|apply za_|apply zn_|apply zd_|refine zs_ ?_ GE412.out|refine zs_ ?_ GE432.out)|exact HB.out)⟩
          (try clear HO_5)
          (try clear HO_413000)
          (try clear HO431)
          (try clear BK412)
          (try clear BK432)
          (try clear HB)
          generalize (w46.setCell ⟨gb432,0,none⟩ (.slice Ao47 t429.length co47)) = w50 at n0_ n1_ n2_ n3_ n4_ n5_ ⊢
          have HO_5:=n0_
          have HO_413000:=n1_
          have HO431:=n2_
          have BK412:=n3_
          have BK432:=n4_
          have HB:=n5_
          clear n0_ n1_ n2_ n3_ n4_ n5_
          have n0_:=zm_ (Kd.R_drew HO_5.out)
          have n1_:=zm_ (Kd.N_drew HO_413000.out)
          have n2_:=zm_ (Kd.N_drew HO431.out)
          have n3_:=zm_ (zr_ BK412.out)
          have n4_:=zm_ (zr_ BK432.out)
          have n5_:=zm_ (zd_ HB.out)
          clear HO_5
          clear HO_413000
          clear HO431
          clear BK412
          clear BK432
          clear HB
          have HO_5:=n0_
          have HO_413000:=n1_
          have HO431:=n2_
          have BK412:=n3_
          have BK432:=n4_
          have HB:=n5_
          clear n0_ n1_ n2_ n3_ n4_ n5_
          refine start_ (n:=37) (S:=fun w' => w'.cell? ⟨gb432,0,none⟩ = some (.slice Ao47 t429.length co47) ∧ w'.cell? ⟨gb412,0,none⟩ = some (.slice Ao12 t409.length co12)) (ds:=[]) #[false,false,false,false,false,false,false,false,false,false,false,false,false,false,false,false,false,false,false,false,false,false,false,false,false,false,false,false,false,false,false,false,false,false,false,false,false] (by kernel_rfl) rfl rfl ⟨(zc_ BK432.out 0).trans rfl,(zc_ BK412.out 0).trans rfl⟩ (fun hHeld => ?_);refine with_tabW laws_FnExprFree.tab14 laws_FnExprFree.bits14 (fun HT_ HW_ => ?_)
          generalize w50.drew = w51 at HO_5 HO_413000 HO431 BK412 BK432 HB hHeld ⊢
          refine pure_ (i:=0) (N:=some 61) (v:=?_) (a':=?_) #[true,false,false,false,false,false,false,false,false,false,false,false,false,false,false,false,false,false,false,false,false,false,false,false,false,false,false,false,false,false,false,false,false,false,false,false,false] rfl rfl (any_of HT_.out (by kernel_rfl)) (fun _ _ _ h => h) (Or.inl ⟨by rfl,?_⟩) ?_ ?_
          rotate_left
          ·intro w'
           go_simp
           with_reducible rfl
          rotate_left
          ·simp only [Act.put,List.setIfInBounds_toArray,List.set_cons_zero,List.set_cons_succ,i64_w,i32_w,IntKind.wrap_u8]
           rfl
          refine pure_ (i:=1) (N:=some 62) (v:=?_) (a':=?_) #[true,true,false,false,false,false,false,false,false,false,false,false,false,false,false,false,false,false,false,false,false,false,false,false,false,false,false,false,false,false,false,false,false,false,false,false,false] rfl rfl (any_of HT_.out (by kernel_rfl)) (fun _ _ _ h => h) (Or.inl ⟨by rfl,?_⟩) ?_ ?_
          rotate_left
          ·intro w'
           go_simp
           with_reducible rfl
          rotate_left
          ·simp only [Act.put,List.setIfInBounds_toArray,List.set_cons_zero,List.set_cons_succ,i64_w,i32_w,IntKind.wrap_u8]
           rfl
          refine pure_ (i:=2) (N:=some 63) (v:=?_) (a':=?_) #[true,true,true,false,false,false,false,false,false,false,false,false,false,false,false,false,false,false,false,false,false,false,false,false,false,false,false,false,false,false,false,false,false,false,false,false,false] rfl rfl (any_of HT_.out (by kernel_rfl)) (fun _ _ _ h => h) (Or.inl ⟨by rfl,?_⟩) ?_ ?_
          rotate_left
          ·intro w'
           go_simp
           with_reducible rfl
          rotate_left
          ·simp only [Act.put,List.setIfInBounds_toArray,List.set_cons_zero,List.set_cons_succ,i64_w,i32_w,IntKind.wrap_u8]
           rfl
          refine pure_ (i:=3) (N:=some 64) (v:=?_) (a':=?_) #[true,true,true,true,false,false,false,false,false,false,false,false,false,false,false,false,false,false,false,false,false,false,false,false,false,false,false,false,false,false,false,false,false,false,false,false,false] rfl rfl (any_of HT_.out (by kernel_rfl)) (fun _ _ _ h => h) (Or.inl ⟨by rfl,?_⟩) ?_ ?_
          rotate_left
          ·intro w'
           go_simp
           with_reducible rfl
          rotate_left
          ·simp only [Act.put,List.setIfInBounds_toArray,List.set_cons_zero,List.set_cons_succ,i64_w,i32_w,IntKind.wrap_u8]
           rfl
          refine pure_ (i:=4) (N:=some 65) (v:=?_) (a':=?_) #[true,true,true,true,true,false,false,false,false,false,false,false,false,false,false,false,false,false,false,false,false,false,false,false,false,false,false,false,false,false,false,false,false,false,false,false,false] rfl rfl (any_of HT_.out (by kernel_rfl)) (fun _ _ _ h => h) (Or.inl ⟨by rfl,?_⟩) ?_ ?_
          rotate_left
          ·intro w'
           go_simp
           with_reducible rfl
          rotate_left
          ·simp only [Act.put,List.setIfInBounds_toArray,List.set_cons_zero,List.set_cons_succ,i64_w,i32_w,IntKind.wrap_u8]
           rfl
          refine pure_ (i:=5) (N:=some 66) (v:=?_) (a':=?_) #[true,true,true,true,true,true,false,false,false,false,false,false,false,false,false,false,false,false,false,false,false,false,false,false,false,false,false,false,false,false,false,false,false,false,false,false,false] rfl rfl (any_of HT_.out (by kernel_rfl)) (fun _ _ _ h => h) (Or.inl ⟨by rfl,?_⟩) ?_ ?_
          rotate_left
          ·intro w'
           go_simp
           with_reducible rfl
          rotate_left
          ·simp only [Act.put,List.setIfInBounds_toArray,List.set_cons_zero,List.set_cons_succ,i64_w,i32_w,IntKind.wrap_u8]
           rfl
          refine pure_ (i:=6) (N:=some 67) (v:=?_) (a':=?_) #[true,true,true,true,true,true,true,false,false,false,false,false,false,false,false,false,false,false,false,false,false,false,false,false,false,false,false,false,false,false,false,false,false,false,false,false,false] rfl rfl (any_of HT_.out (by kernel_rfl)) (fun _ _ _ h => h) (Or.inl ⟨by rfl,?_⟩) ?_ ?_
          rotate_left
          ·intro w'
           go_simp
           with_reducible rfl
          rotate_left
          ·simp only [Act.put,List.setIfInBounds_toArray,List.set_cons_zero,List.set_cons_succ,i64_w,i32_w,IntKind.wrap_u8]
           rfl
          refine pure_ (i:=7) (N:=some 68) (v:=?_) (a':=?_) #[true,true,true,true,true,true,true,true,false,false,false,false,false,false,false,false,false,false,false,false,false,false,false,false,false,false,false,false,false,false,false,false,false,false,false,false,false] rfl rfl (any_of HT_.out (by kernel_rfl)) (fun _ _ _ h => h) (Or.inl ⟨by rfl,?_⟩) ?_ ?_
          rotate_left
          ·intro w'
           go_simp
           with_reducible rfl
          rotate_left
          ·simp only [Act.put,List.setIfInBounds_toArray,List.set_cons_zero,List.set_cons_succ,i64_w,i32_w,IntKind.wrap_u8]
           rfl
          refine pure_ (i:=8) (N:=some 69) (v:=?_) (a':=?_) #[true,true,true,true,true,true,true,true,true,false,false,false,false,false,false,false,false,false,false,false,false,false,false,false,false,false,false,false,false,false,false,false,false,false,false,false,false] rfl rfl (any_of HT_.out (by kernel_rfl)) (fun _ _ _ h => h) (Or.inl ⟨by rfl,?_⟩) ?_ ?_
          rotate_left
          ·intro w'
           go_simp
           with_reducible rfl
          rotate_left
          ·simp only [Act.put,List.setIfInBounds_toArray,List.set_cons_zero,List.set_cons_succ,i64_w,i32_w,IntKind.wrap_u8]
           rfl
          refine take_ (i:=9) (N:=some 70) (v:=?_) (a':=?_) #[true,true,true,true,true,true,true,true,true,true,false,false,false,false,false,false,false,false,false,false,false,false,false,false,false,false,false,false,false,false,false,false,false,false,false,false,false] rfl rfl (take_ofW HT_.out HW_.out (by kernel_rfl)) (fun _ _ _ h => h) (Or.inl ⟨by rfl,?_⟩) hHeld ?_ ?_
          rotate_left
          ·rintro w' ⟨s0,s1⟩
           go_simp
           with_reducible rfl
          rotate_left
          ·simp only [Act.put,List.setIfInBounds_toArray,List.set_cons_zero,List.set_cons_succ,i64_w,i32_w,IntKind.wrap_u8]
           rfl
          refine take_ (i:=11) (N:=some 72) (v:=?_) (a':=?_) #[true,true,true,true,true,true,true,true,true,true,false,true,false,false,false,false,false,false,false,false,false,false,false,false,false,false,false,false,false,false,false,false,false,false,false,false,false] rfl rfl (take_ofW HT_.out HW_.out (by kernel_rfl)) (fun _ _ _ h => h) (Or.inl ⟨by rfl,?_⟩) hHeld ?_ ?_
          rotate_left
          ·rintro w' ⟨s0,s1⟩
           go_simp
           with_reducible rfl
          rotate_left
          ·simp only [Act.put,List.setIfInBounds_toArray,List.set_cons_zero,List.set_cons_succ,i64_w,i32_w,IntKind.wrap_u8]
           rfl
          refine one_ (i:=10) (N:=some 71) #[true,true,true,true,true,true,true,true,true,true,true,true,false,false,false,false,false,false,false,false,false,false,false,false,false,false,false,false,false,false,false,false,false,false,false,false,false] rfl rfl (one_of HT_.out (by kernel_rfl)) (by decide) (fun K hK => ?_)
          refine goes_ Try.func32 (by kernel_rfl) rfl #[.agg #[.slice Ao47 t429.length co47]] (by rfl) rfl rfl zq_ ?_
          with_reducible refine (impl_FreeOf.calls k1 _ _ t429 t433 _ ?side1 ?side2 A35.out).mono ?_
          (case side1 => repeat (first|exact (Kd.N_reads' HO431.out).2.2|(with_reducible refine Kd.C_alloc ?_ _)|(with_reducible refine Kd.C_drewN ?_ _)|(with_reducible refine Kd.C_drew ?_)))
          (case side2 => exact (Kd.N_reads' HO431.out).2.1)
          rintro e w52 ⟨v434,rfl,ho0,hb⟩
          refine ⟨_,rfl,?_⟩
          have n0_:=zm_ (Kd.R_elder' zt13_3 (Kd.R_base ho0) hb)
          have n1_:=zm_ (Kd.N_elder' zt13_5 (Kd.R_base ho0) hb)
          have n2_:=zm_ (Kd.N_elder' zt13_7 (Kd.R_base ho0) hb)
          have n3_:=zm_ (Kd.R_lower (Kd.R_new' ho0 (Kd.R_lt zt13_3)) (below_size zt13_1))
          have n4_:=zm_ (blk_below (g:=gb412) (o:=.cells #[.slice Ao12 t409.length co12] 28 (0,0)) zt13_4 hb)
          have n5_:=zm_ (blk_below (g:=gb432) (o:=.cells #[.slice Ao47 t429.length co47] 28 (0,0)) zt13_8 hb)
          have n6_:=zm_ (below_step zt13_1 hb)
          clear HO_5
          clear HO_413000
          clear HO431
          clear BK412
          clear BK432
          clear HB
          have HO_5:=n0_
          have HO_413000:=n1_
          have HO431:=n2_
          have HO435:=n3_
          have BK412:=n4_
          have BK432:=n5_
          have HB:=n6_
          clear n0_ n1_ n2_ n3_ n4_ n5_ n6_
          (try clear hb)
          (try clear hb2)
          (try clear hk)
          (try clear hi)
          (try clear ho0)
          refine hK.out _ _ ⟨(zc_ BK432.out 0).trans rfl,(zc_ BK412.out 0).trans rfl⟩ (fun hHeld => ?_)
          clear hK K
          refine norm_ (a':=?_) ?_ ?_
          rotate_left
          ·show Act.put _ (some 71) _ = _
           simp only [Act.put,List.setIfInBounds_toArray,List.set_cons_zero,List.set_cons_succ,i64_w,i32_w,IntKind.wrap_u8]
           rfl
          refine one_ (i:=12) (N:=some 73) #[true,true,true,true,true,true,true,true,true,true,true,true,true,false,false,false,false,false,false,false,false,false,false,false,false,false,false,false,false,false,false,false,false,false,false,false,false] rfl rfl (one_of HT_.out (by kernel_rfl)) (by decide) (fun K hK => ?_)
          refine goes_ Try.func31 (by kernel_rfl) rfl #[.agg #[.slice Ao47 t429.length co47]] (by rfl) rfl rfl zq_ ?_
          with_reducible refine (spec_FreeOf.calls k1 _ _ t429 t436 _ ?side1 ?side2 A36.out).mono ?_
          (case side1 => repeat (first|exact (Kd.N_reads' HO431.out).2.2|(with_reducible refine Kd.C_alloc ?_ _)|(with_reducible refine Kd.C_drewN ?_ _)|(with_reducible refine Kd.C_drew ?_)))
          (case side2 => exact (Kd.N_reads' HO431.out).2.1)
          rintro e w53 ⟨v437,rfl,ho0,hb⟩
          refine ⟨_,rfl,?_⟩
          have n0_:=zm_ (Kd.R_elder' zt13_3 (Kd.R_base ho0) hb)
          have n1_:=zm_ (Kd.N_elder' zt13_5 (Kd.R_base ho0) hb)
          have n2_:=zm_ (Kd.N_elder' zt13_7 (Kd.R_base ho0) hb)
          have n3_:=zm_ (Kd.R_elder' zt13_6 (Kd.R_base ho0) hb)
          have n4_:=zm_ (Kd.R_lower (Kd.R_new' (Kd.R_new' ho0 (Kd.R_lt zt13_3)) (Kd.R_lt zt13_6)) (below_size zt13_1))
          have n5_:=zm_ (blk_below (g:=gb412) (o:=.cells #[.slice Ao12 t409.length co12] 28 (0,0)) zt13_4 hb)
          have n6_:=zm_ (blk_below (g:=gb432) (o:=.cells #[.slice Ao47 t429.length co47] 28 (0,0)) zt13_8 hb)
          have n7_:=zm_ (below_step zt13_1 hb)
          clear HO_5
          clear HO_413000
          clear HO431
          clear HO435
          clear BK412
          clear BK432
          clear HB
          have HO_5:=n0_
          have HO_413000:=n1_
          have HO431:=n2_
          have HO435:=n3_
          have HO438:=n4_
          have BK412:=n5_
          have BK432:=n6_
          have HB:=n7_
          clear n0_ n1_ n2_ n3_ n4_ n5_ n6_ n7_
          (try clear hb)
          (try clear hb2)
          (try clear hk)
          (try clear hi)
          (try clear ho0)
          obtain ⟨Ao54,co54,eo54⟩:=Kd.R_slice HO435.out
          (first|subst eo54|(injection eo54 with f1_ f2_ f3_;have f4_:=f1_.symm;have f5_:=f3_.symm;clear f1_ f2_ f3_;subst f4_;subst f5_))
          obtain ⟨Ao55,co55,eo55⟩:=Kd.R_slice HO438.out
          (first|subst eo55|(injection eo55 with f1_ f2_ f3_;have f4_:=f1_.symm;have f5_:=f3_.symm;clear f1_ f2_ f3_;subst f4_;subst f5_))
          refine hK.out _ _ ⟨(zc_ BK432.out 0).trans rfl,(zc_ BK412.out 0).trans rfl⟩ (fun hHeld => ?_)
          clear hK K
          refine norm_ (a':=?_) ?_ ?_
          rotate_left
          ·show Act.put _ (some 73) _ = _
           simp only [Act.put,List.setIfInBounds_toArray,List.set_cons_zero,List.set_cons_succ,i64_w,i32_w,IntKind.wrap_u8]
           rfl
          refine one_ (i:=13) (N:=some 74) #[true,true,true,true,true,true,true,true,true,true,true,true,true,true,false,false,false,false,false,false,false,false,false,false,false,false,false,false,false,false,false,false,false,false,false,false,false] rfl rfl (one_of HT_.out (by kernel_rfl)) (by decide) (fun K hK => ?_)
          refine goes_ Try.func40 (by kernel_rfl) rfl #[.slice Ao54 t433.length co54,.slice Ao55 t436.length co55] (by rfl) rfl rfl zq_ ?_
          with_reducible refine (laws_sameTexts.calls k1 _ _ t433 _ _ t436 true _ ?side1 ?side2 ?side3 ?side4 A37.out).mono ?_
          (case side1 => repeat (first|exact (Kd.R_reads' HO435.out).2.2|(with_reducible refine Kd.C_alloc ?_ _)|(with_reducible refine Kd.C_drewN ?_ _)|(with_reducible refine Kd.C_drew ?_)))
          (case side2 => exact (Kd.R_reads' HO435.out).2.1)
          (case side3 => repeat (first|exact (Kd.R_reads' HO438.out).2.2|(with_reducible refine Kd.C_alloc ?_ _)|(with_reducible refine Kd.C_drewN ?_ _)|(with_reducible refine Kd.C_drew ?_)))
          (case side4 => exact (Kd.R_reads' HO438.out).2.1)
          rintro e w' ⟨rfl,⟨nd,rfl⟩⟩
          refine ⟨_,rfl,?_⟩
          refine hK.out _ _ ⟨(zc_ BK432.out 0).trans rfl,(zc_ BK412.out 0).trans rfl⟩ (fun hHeld => ?_)
          clear hK K
          refine norm_ (a':=?_) ?_ ?_
          rotate_left
          ·show Act.put _ (some 74) _ = _
           simp only [Act.put,List.setIfInBounds_toArray,List.set_cons_zero,List.set_cons_succ,i64_w,i32_w,IntKind.wrap_u8]
           rfl
          refine pure_ (i:=14) (N:=some 75) (v:=?_) (a':=?_) #[true,true,true,true,true,true,true,true,true,true,true,true,true,true,true,false,false,false,false,false,false,false,false,false,false,false,false,false,false,false,false,false,false,false,false,false,false] rfl rfl (any_of HT_.out (by kernel_rfl)) (fun _ _ _ h => h) (Or.inl ⟨by rfl,?_⟩) ?_ ?_
          rotate_left
          ·intro w'
           go_simp
           with_reducible rfl
          rotate_left
          ·simp only [Act.put,List.setIfInBounds_toArray,List.set_cons_zero,List.set_cons_succ,i64_w,i32_w,IntKind.wrap_u8]
           rfl
          refine pure_ (i:=15) (N:=some 76) (v:=?_) (a':=?_) #[true,true,true,true,true,true,true,true,true,true,true,true,true,true,true,true,false,false,false,false,false,false,false,false,false,false,false,false,false,false,false,false,false,false,false,false,false] rfl rfl (any_of HT_.out (by kernel_rfl)) (fun _ _ _ h => h) (Or.inl ⟨by rfl,?_⟩) ?_ ?_
          rotate_left
          ·intro w'
           go_simp
           with_reducible rfl
          rotate_left
          ·simp only [Act.put,List.setIfInBounds_toArray,List.set_cons_zero,List.set_cons_succ,i64_w,i32_w,IntKind.wrap_u8]
           rfl
          refine pure_ (i:=16) (N:=some 77) (v:=?_) (a':=?_) #[true,true,true,true,true,true,true,true,true,true,true,true,true,true,true,true,true,false,false,false,false,false,false,false,false,false,false,false,false,false,false,false,false,false,false,false,false] rfl rfl (any_of HT_.out (by kernel_rfl)) (fun _ _ _ h => h) (Or.inl ⟨by rfl,?_⟩) ?_ ?_
          rotate_left
          ·intro w'
           go_simp
           with_reducible rfl
          rotate_left
          ·simp only [Act.put,List.setIfInBounds_toArray,List.set_cons_zero,List.set_cons_succ,i64_w,i32_w,IntKind.wrap_u8]
           rfl
          refine take_ (i:=17) (N:=some 78) (v:=?_) (a':=?_) #[true,true,true,true,true,true,true,true,true,true,true,true,true,true,true,true,true,true,false,false,false,false,false,false,false,false,false,false,false,false,false,false,false,false,false,false,false] rfl rfl (take_ofW HT_.out HW_.out (by kernel_rfl)) (fun _ _ _ h => h) (Or.inl ⟨by rfl,?_⟩) hHeld ?_ ?_
          rotate_left
          ·rintro w' ⟨s0,s1⟩
           go_simp
           with_reducible rfl
          rotate_left
          ·simp only [Act.put,List.setIfInBounds_toArray,List.set_cons_zero,List.set_cons_succ,i64_w,i32_w,IntKind.wrap_u8]
           rfl
          refine one_ (i:=18) (N:=some 79) #[true,true,true,true,true,true,true,true,true,true,true,true,true,true,true,true,true,true,true,false,false,false,false,false,false,false,false,false,false,false,false,false,false,false,false,false,false] rfl rfl (one_of HT_.out (by kernel_rfl)) (by decide) (fun K hK => ?_)
          refine goes_ Try.func31 (by kernel_rfl) rfl #[.agg #[.slice Ao12 t409.length co12]] (by rfl) rfl rfl zq_ ?_
          with_reducible refine (spec_FreeOf.calls k1 _ _ t409 t440 _ ?side1 ?side2 A39.out).mono ?_
          (case side1 => repeat (first|exact (Kd.N_reads' HO_413000.out).2.2|(with_reducible refine Kd.C_alloc ?_ _)|(with_reducible refine Kd.C_drewN ?_ _)|(with_reducible refine Kd.C_drew ?_)))
          (case side2 => exact (Kd.N_reads' HO_413000.out).2.1)
          rintro e w56 ⟨v441,rfl,ho0,hb⟩
          refine ⟨_,rfl,?_⟩
          have n0_:=zm_ (Kd.R_elder' zt13_3 (Kd.R_base ho0) hb)
          have n1_:=zm_ (Kd.N_elder' zt13_5 (Kd.R_base ho0) hb)
          have n2_:=zm_ (Kd.N_elder' zt13_7 (Kd.R_base ho0) hb)
          have n3_:=zm_ (Kd.R_elder' zt13_6 (Kd.R_base ho0) hb)
          have n4_:=zm_ (Kd.R_elder' zt13_9 (Kd.R_base ho0) hb)
          have n5_:=zm_ (Kd.R_lower (Kd.R_new' (Kd.R_new' (Kd.R_new' ho0 (Kd.R_lt zt13_3)) (Kd.R_lt zt13_6)) (Kd.R_lt zt13_9)) (below_size zt13_1))
          have n6_:=zm_ (blk_below (g:=gb412) (o:=.cells #[.slice Ao12 t409.length co12] 28 (0,0)) zt13_4 hb)
          have n7_:=zm_ (blk_below (g:=gb432) (o:=.cells #[.slice Ao47 t429.length co47] 28 (0,0)) zt13_8 hb)
          have n8_:=zm_ (below_step zt13_1 hb)
          clear HO_5
          clear HO_413000
          clear HO431
          clear HO435
          clear HO438
          clear BK412
          clear BK432
          clear HB
          have HO_5:=n0_
          have HO_413000:=n1_
          have HO431:=n2_
          have HO435:=n3_
          have HO438:=n4_
          have HO442:=n5_
          have BK412:=n6_
          have BK432:=n7_
          have HB:=n8_
          clear n0_ n1_ n2_ n3_ n4_ n5_ n6_ n7_ n8_
          (try clear hb)
          (try clear hb2)
          (try clear hk)
          (try clear hi)
          (try clear ho0)
          obtain ⟨Ao57,co57,eo57⟩:=Kd.R_slice HO442.out
          (first|subst eo57|(injection eo57 with f1_ f2_ f3_;have f4_:=f1_.symm;have f5_:=f3_.symm;clear f1_ f2_ f3_;subst f4_;subst f5_))
          refine hK.out _ _ ⟨(zc_ BK432.out 0).trans rfl,(zc_ BK412.out 0).trans rfl⟩ (fun hHeld => ?_)
          clear hK K
          refine norm_ (a':=?_) ?_ ?_
          rotate_left
          ·show Act.put _ (some 79) _ = _
           simp only [Act.put,List.setIfInBounds_toArray,List.set_cons_zero,List.set_cons_succ,i64_w,i32_w,IntKind.wrap_u8]
           rfl
          refine one_ (i:=19) (N:=some 80) #[true,true,true,true,true,true,true,true,true,true,true,true,true,true,true,true,true,true,true,true,false,false,false,false,false,false,false,false,false,false,false,false,false,false,false,false,false] rfl rfl (one_of HT_.out (by kernel_rfl)) (by decide) (fun K hK => ?_)
          refine goes_ Try.func40 (by kernel_rfl) rfl #[.slice Ao21 t416.length co21,.slice Ao57 t440.length co57] (by rfl) rfl rfl zq_ ?_
          with_reducible refine (laws_sameTexts.calls k1 _ _ t416 _ _ t440 true _ ?side1 ?side2 ?side3 ?side4 A40.out).mono ?_
          (case side1 => repeat (first|exact (Kd.R_reads' HO_5.out).2.2|(with_reducible refine Kd.C_alloc ?_ _)|(with_reducible refine Kd.C_drewN ?_ _)|(with_reducible refine Kd.C_drew ?_)))
          (case side2 => exact (Kd.R_reads' HO_5.out).2.1)
          (case side3 => repeat (first|exact (Kd.R_reads' HO442.out).2.2|(with_reducible refine Kd.C_alloc ?_ _)|(with_reducible refine Kd.C_drewN ?_ _)|(with_reducible refine Kd.C_drew ?_)))
          (case side4 => exact (Kd.R_reads' HO442.out).2.1)
          rintro e w' ⟨rfl,⟨nd,rfl⟩⟩
          refine ⟨_,rfl,?_⟩
          refine hK.out _ _ ⟨(zc_ BK432.out 0).trans rfl,(zc_ BK412.out 0).trans rfl⟩ (fun hHeld => ?_)
          clear hK K
          refine norm_ (a':=?_) ?_ ?_
          rotate_left
          ·show Act.put _ (some 80) _ = _
           simp only [Act.put,List.setIfInBounds_toArray,List.set_cons_zero,List.set_cons_succ,i64_w,i32_w,IntKind.wrap_u8]
           rfl
          refine pure_ (i:=20) (N:=some 81) (v:=?_) (a':=?_) #[true,true,true,true,true,true,true,true,true,true,true,true,true,true,true,true,true,true,true,true,true,false,false,false,false,false,false,false,false,false,false,false,false,false,false,false,false] rfl rfl (any_of HT_.out (by kernel_rfl)) (fun _ _ _ h => h) (Or.inl ⟨by rfl,?_⟩) ?_ ?_
          rotate_left
          ·intro w'
           go_simp
           with_reducible rfl
          rotate_left
          ·simp only [Act.put,List.setIfInBounds_toArray,List.set_cons_zero,List.set_cons_succ,i64_w,i32_w,IntKind.wrap_u8]
           rfl
          refine pure_ (i:=21) (N:=some 82) (v:=?_) (a':=?_) #[true,true,true,true,true,true,true,true,true,true,true,true,true,true,true,true,true,true,true,true,true,true,false,false,false,false,false,false,false,false,false,false,false,false,false,false,false] rfl rfl (any_of HT_.out (by kernel_rfl)) (fun _ _ _ h => h) (Or.inl ⟨by rfl,?_⟩) ?_ ?_
          rotate_left
          ·intro w'
           go_simp
           with_reducible rfl
          rotate_left
          ·simp only [Act.put,List.setIfInBounds_toArray,List.set_cons_zero,List.set_cons_succ,i64_w,i32_w,IntKind.wrap_u8]
           rfl
          refine pure_ (i:=22) (N:=some 83) (v:=?_) (a':=?_) #[true,true,true,true,true,true,true,true,true,true,true,true,true,true,true,true,true,true,true,true,true,true,true,false,false,false,false,false,false,false,false,false,false,false,false,false,false] rfl rfl (any_of HT_.out (by kernel_rfl)) (fun _ _ _ h => h) (Or.inl ⟨by rfl,?_⟩) ?_ ?_
          rotate_left
          ·intro w'
           go_simp
           with_reducible rfl
          rotate_left
          ·simp only [Act.put,List.setIfInBounds_toArray,List.set_cons_zero,List.set_cons_succ,i64_w,i32_w,IntKind.wrap_u8]
           rfl
          refine pure_ (i:=23) (N:=some 84) (v:=?_) (a':=?_) #[true,true,true,true,true,true,true,true,true,true,true,true,true,true,true,true,true,true,true,true,true,true,true,true,false,false,false,false,false,false,false,false,false,false,false,false,false] rfl rfl (any_of HT_.out (by kernel_rfl)) (fun _ _ _ h => h) (Or.inl ⟨by rfl,?_⟩) ?_ ?_
          rotate_left
          ·intro w'
           go_simp
           with_reducible rfl
          rotate_left
          ·simp only [Act.put,List.setIfInBounds_toArray,List.set_cons_zero,List.set_cons_succ,i64_w,i32_w,IntKind.wrap_u8]
           rfl
          refine pure_ (i:=24) (N:=some 85) (v:=?_) (a':=?_) #[true,true,true,true,true,true,true,true,true,true,true,true,true,true,true,true,true,true,true,true,true,true,true,true,true,false,false,false,false,false,false,false,false,false,false,false,false] rfl rfl (any_of HT_.out (by kernel_rfl)) (fun _ _ _ h => h) (Or.inl ⟨by rfl,?_⟩) ?_ ?_
          rotate_left
          ·intro w'
           go_simp
           with_reducible rfl
          rotate_left
          ·simp only [Act.put,List.setIfInBounds_toArray,List.set_cons_zero,List.set_cons_succ,i64_w,i32_w,IntKind.wrap_u8]
           rfl
          refine pure_ (i:=25) (N:=some 86) (v:=?_) (a':=?_) #[true,true,true,true,true,true,true,true,true,true,true,true,true,true,true,true,true,true,true,true,true,true,true,true,true,true,false,false,false,false,false,false,false,false,false,false,false] rfl rfl (any_of HT_.out (by kernel_rfl)) (fun _ _ _ h => h) (Or.inl ⟨by rfl,?_⟩) ?_ ?_
          rotate_left
          ·intro w'
           go_simp
           with_reducible rfl
          rotate_left
          ·simp only [Act.put,List.setIfInBounds_toArray,List.set_cons_zero,List.set_cons_succ,i64_w,i32_w,IntKind.wrap_u8]
           rfl
          refine pure_ (i:=26) (N:=some 87) (v:=undef) (a':=?_) #[true,true,true,true,true,true,true,true,true,true,true,true,true,true,true,true,true,true,true,true,true,true,true,true,true,true,true,false,false,false,false,false,false,false,false,false,false] rfl rfl (any_of HT_.out (by kernel_rfl)) (fun _ _ _ h => h) (Or.inr ⟨by rfl,rfl⟩) ?_ ?_
          rotate_left
          ·simp only [Act.put,List.setIfInBounds_toArray,List.set_cons_zero,List.set_cons_succ,i64_w,i32_w,IntKind.wrap_u8]
           rfl
          refine pure_ (i:=27) (N:=some 88) (v:=undef) (a':=?_) #[true,true,true,true,true,true,true,true,true,true,true,true,true,true,true,true,true,true,true,true,true,true,true,true,true,true,true,true,false,false,false,false,false,false,false,false,false] rfl rfl (any_of HT_.out (by kernel_rfl)) (fun _ _ _ h => h) (Or.inr ⟨by rfl,rfl⟩) ?_ ?_
          rotate_left
          ·simp only [Act.put,List.setIfInBounds_toArray,List.set_cons_zero,List.set_cons_succ,i64_w,i32_w,IntKind.wrap_u8]
           rfl
          refine pure_ (i:=28) (N:=some 89) (v:=undef) (a':=?_) #[true,true,true,true,true,true,true,true,true,true,true,true,true,true,true,true,true,true,true,true,true,true,true,true,true,true,true,true,true,false,false,false,false,false,false,false,false] rfl rfl (any_of HT_.out (by kernel_rfl)) (fun _ _ _ h => h) (Or.inr ⟨by rfl,rfl⟩) ?_ ?_
          rotate_left
          ·simp only [Act.put,List.setIfInBounds_toArray,List.set_cons_zero,List.set_cons_succ,i64_w,i32_w,IntKind.wrap_u8]
           rfl
          refine pure_ (i:=29) (N:=some 90) (v:=undef) (a':=?_) #[true,true,true,true,true,true,true,true,true,true,true,true,true,true,true,true,true,true,true,true,true,true,true,true,true,true,true,true,true,true,false,false,false,false,false,false,false] rfl rfl (any_of HT_.out (by kernel_rfl)) (fun _ _ _ h => h) (Or.inr ⟨by rfl,rfl⟩) ?_ ?_
          rotate_left
          ·simp only [Act.put,List.setIfInBounds_toArray,List.set_cons_zero,List.set_cons_succ,i64_w,i32_w,IntKind.wrap_u8]
           rfl
          refine pure_ (i:=30) (N:=some 91) (v:=?_) (a':=?_) #[true,true,true,true,true,true,true,true,true,true,true,true,true,true,true,true,true,true,true,true,true,true,true,true,true,true,true,true,true,true,true,false,false,false,false,false,false] rfl rfl (any_of HT_.out (by kernel_rfl)) (fun _ _ _ h => h) (Or.inl ⟨by rfl,?_⟩) ?_ ?_
          rotate_left
          ·intro w'
           go_simp
           with_reducible rfl
          rotate_left
          ·simp only [Act.put,List.setIfInBounds_toArray,List.set_cons_zero,List.set_cons_succ,i64_w,i32_w,IntKind.wrap_u8]
           rfl
          refine pure_ (i:=31) (N:=some 92) (v:=?_) (a':=?_) #[true,true,true,true,true,true,true,true,true,true,true,true,true,true,true,true,true,true,true,true,true,true,true,true,true,true,true,true,true,true,true,true,false,false,false,false,false] rfl rfl (any_of HT_.out (by kernel_rfl)) (fun _ _ _ h => h) (Or.inl ⟨by rfl,?_⟩) ?_ ?_
          rotate_left
          ·intro w'
           go_simp
           with_reducible rfl
          rotate_left
          ·simp only [Act.put,List.setIfInBounds_toArray,List.set_cons_zero,List.set_cons_succ,i64_w,i32_w,IntKind.wrap_u8]
           rfl
          refine pure_ (i:=32) (N:=some 93) (v:=?_) (a':=?_) #[true,true,true,true,true,true,true,true,true,true,true,true,true,true,true,true,true,true,true,true,true,true,true,true,true,true,true,true,true,true,true,true,true,false,false,false,false] rfl rfl (any_of HT_.out (by kernel_rfl)) (fun _ _ _ h => h) (Or.inl ⟨by rfl,?_⟩) ?_ ?_
          rotate_left
          ·intro w'
           go_simp
           with_reducible rfl
          rotate_left
          ·simp only [Act.put,List.setIfInBounds_toArray,List.set_cons_zero,List.set_cons_succ,i64_w,i32_w,IntKind.wrap_u8]
           rfl
          refine take_ (i:=33) (N:=some 94) (v:=?_) (a':=?_) #[true,true,true,true,true,true,true,true,true,true,true,true,true,true,true,true,true,true,true,true,true,true,true,true,true,true,true,true,true,true,true,true,true,true,false,false,false] rfl rfl (take_ofW HT_.out HW_.out (by kernel_rfl)) (fun _ _ _ h => h) (Or.inl ⟨by rfl,?_⟩) hHeld ?_ ?_
          rotate_left
          ·rintro w' ⟨s0,s1⟩
           go_simp
           with_reducible rfl
          rotate_left
          ·simp only [Act.put,List.setIfInBounds_toArray,List.set_cons_zero,List.set_cons_succ,i64_w,i32_w,IntKind.wrap_u8]
           rfl
          refine one_ (i:=34) (N:=some 95) #[true,true,true,true,true,true,true,true,true,true,true,true,true,true,true,true,true,true,true,true,true,true,true,true,true,true,true,true,true,true,true,true,true,true,true,false,false] rfl rfl (one_of HT_.out (by kernel_rfl)) (by decide) (fun K hK => ?_)
          refine goes_ Try.func14 (by kernel_rfl) rfl #[.agg #[.slice Ao12 t409.length co12]] (by rfl) rfl rfl zq_ ?_
          with_reducible refine (impl_ExprOk.calls k1 _ _ t409 t444 _ ?side1 ?side2 A43.out).mono ?_
          (case side1 => repeat (first|exact (Kd.N_reads' HO_413000.out).2.2|(with_reducible refine Kd.C_alloc ?_ _)|(with_reducible refine Kd.C_drewN ?_ _)|(with_reducible refine Kd.C_drew ?_)))
          (case side2 => exact (Kd.N_reads' HO_413000.out).2.1)
          rintro e w58 ⟨rfl,hb⟩
          refine ⟨_,rfl,?_⟩
          have n0_:=zm_ (Kd.R_below zt13_3 hb)
          have n1_:=zm_ (Kd.N_below zt13_5 hb)
          have n2_:=zm_ (Kd.N_below zt13_7 hb)
          have n3_:=zm_ (Kd.R_below zt13_6 hb)
          have n4_:=zm_ (Kd.R_below zt13_9 hb)
          have n5_:=zm_ (Kd.R_below zt13_12 hb)
          have n6_:=zm_ (blk_below (g:=gb412) (o:=.cells #[.slice Ao12 t409.length co12] 28 (0,0)) zt13_4 hb)
          have n7_:=zm_ (blk_below (g:=gb432) (o:=.cells #[.slice Ao47 t429.length co47] 28 (0,0)) zt13_8 hb)
          have n8_:=zm_ (below_step zt13_1 hb)
          clear HO_5
          clear HO_413000
          clear HO431
          clear HO435
          clear HO438
          clear HO442
          clear BK412
          clear BK432
          clear HB
          have HO_5:=n0_
          have HO_413000:=n1_
          have HO431:=n2_
          have HO435:=n3_
          have HO438:=n4_
          have HO442:=n5_
          have BK412:=n6_
          have BK432:=n7_
          have HB:=n8_
          clear n0_ n1_ n2_ n3_ n4_ n5_ n6_ n7_ n8_
          (try clear hb)
          (try clear hb2)
          (try clear hk)
          (try clear hi)
          refine hK.out _ _ ⟨(zc_ BK432.out 0).trans rfl,(zc_ BK412.out 0).trans rfl⟩ (fun hHeld => ?_)
          clear hK K
          refine norm_ (a':=?_) ?_ ?_
          rotate_left
          ·show Act.put _ (some 95) _ = _
           simp only [Act.put,List.setIfInBounds_toArray,List.set_cons_zero,List.set_cons_succ,i64_w,i32_w,IntKind.wrap_u8]
           rfl
          refine pure_ (i:=35) (N:=some 96) (v:=?_) (a':=?_) #[true,true,true,true,true,true,true,true,true,true,true,true,true,true,true,true,true,true,true,true,true,true,true,true,true,true,true,true,true,true,true,true,true,true,true,true,false] rfl rfl (any_of HT_.out (by kernel_rfl)) (fun _ _ _ h => h) (Or.inl ⟨by rfl,?_⟩) ?_ ?_
          rotate_left
          ·intro w'
           go_simp
           with_reducible rfl
          rotate_left
          ·simp only [Act.put,List.setIfInBounds_toArray,List.set_cons_zero,List.set_cons_succ,i64_w,i32_w,IntKind.wrap_u8]
           rfl
          refine pure_ (i:=36) (N:=some 2) (v:=?_) (a':=?_) #[true,true,true,true,true,true,true,true,true,true,true,true,true,true,true,true,true,true,true,true,true,true,true,true,true,true,true,true,true,true,true,true,true,true,true,true,true] rfl rfl (any_of HT_.out (by kernel_rfl)) (fun _ _ _ h => h) (Or.inl ⟨by rfl,?_⟩) ?_ ?_
          rotate_left
          ·intro w'
           go_simp
           with_reducible rfl
          rotate_left
          ·simp only [Act.put,List.setIfInBounds_toArray,List.set_cons_zero,List.set_cons_succ,i64_w,i32_w,IntKind.wrap_u8]
           rfl
          refine done_ (done_of HT_.out (by kernel_rfl)) ?_
          try go_wp2
          go_ret
          exact ⟨zE_,by repeat (first|(with_reducible first|exact HB.out|apply za_|apply zn_|apply zd_|refine zs_ ?_ GE412.out|refine zs_ ?_ GE432.out)|exact HB.out)⟩
         ·rw [if_neg c42] at H
          have c42b0 : decide (0 < (t416.length : Int)) = false:=decide_eq_false c42
          have c42b1 : decide (0 < t416.length) = false:=decide_eq_false (by omega)
          clear c42
          replace H:=Option.bind_eq_some_iff.mp H
          obtain ⟨t445,A590,H⟩:=H
          replace H : (if (t445.length : Int) = 0 then ((impl_ExprOk.f k1 t409).bind fun t448 => (some t448)) else (none)) = some r:=H
          have A59:=zm_ A590
          clear A590
          by_cases c60 : (t445.length : Int) = 0
          ·rw [if_pos c60] at H
           have c60b0 : ((t445.length : Int) == 0) = true:=beq_iff_eq.mpr c60
           have c60b1 : ((t445.length : Int) != 0) = false:=bne_eq_false_iff_eq.mpr c60
           clear c60
           replace H:=Option.bind_eq_some_iff.mp H
           obtain ⟨t448,A610,H⟩:=H
           replace H : (some t448) = some r:=H
           have A61:=zm_ A610
           clear A610
           obtain rfl:=Option.some.inj H
           have hcz62_0 : wr.cell? ⟨gb412,0,none⟩ = some (.slice Ao12 t409.length co12):=(zc_ BK412.out 0).trans rfl
           have hfz62_0:=zf_ BK412.out 0
           try go_wp2_with (first|((with_reducible refine gate_callee (f:=39) rfl ?_);refine goesL_ (some 60) rfl rfl Try.func39 (by kernel_rfl) rfl #[.slice A0 l0.length c0] rfl zq_ ?_;(with_reducible refine (spec_DrawFreeOf.calls k1 _ _ l0 t429 _ ?side1 ?side2 A32.out).mono ?_);(case side1 => exact zD_);(case side2 => exact HC0.out);rintro e w63 ⟨v430,rfl,ho0,hb⟩;refine ⟨_,rfl,?_⟩;have n0_:=zm_ (Kd.R_below zt13_3 hb);have n1_:=zm_ (Kd.N_elder' zt13_5 (Kd.N_base ho0) hb);have n2_:=zm_ (Kd.N_lower (Kd.N_mono (ok':=fun k_ => some k_ ≠ (.slice Ao21 t416.length co21 : Value).ownBlock ∧ some k_ ≠ (.slice Ao12 t409.length co12 : Value).ownBlock ∧ k_ ≠ gb412) ho0 (fun k_ hk_ => ⟨(Kd.fresh' (Kd.R_lt zt13_3) k_ hk_),(Kd.fresh' (Kd.N_lt zt13_5) k_ hk_),(Kd.freshB (g:=gb412) (o:=.cells #[.slice Ao12 t409.length co12] 28 (0,0)) zt13_4 k_ hk_)⟩)) (below_size zt13_2));have n3_:=zm_ (blk_below (g:=gb412) (o:=.cells #[.slice Ao12 t409.length co12] 28 (0,0)) zt13_4 hb);have n4_:=zm_ (below_step zt13_2 hb);clear HO_5;clear HO_413000;clear BK412;clear HB;have HO_5:=n0_;have HO_413000:=n1_;have HO431:=n2_;have BK412:=n3_;have HB:=n4_;clear n0_ n1_ n2_ n3_ n4_;(try clear hb);(try clear hb2);(try clear hk);(try clear hi);(try clear ho0))|((with_reducible refine gate_dst (N:=11) rfl ?_);(try (refine gate_guard (by rfl) ?_;dsimp only));refine box_event ?hg (N:=11) ?hd (cs:=#[.slice none 0 0]) (t:=28) ?hr ?_;(case hd => rfl);(case hg => rfl);(case hr => first|(go_simp;done)|(go_simp;rfl));intro gb432 hg w64 hbox hb;have n0_:=zm_ (Kd.R_below zt13_3 hb);have n1_:=zm_ (Kd.N_below (Kd.N_elderB zt13_5 gb432 (Nat.le_of_eq hg.symm)) hb);have n2_:=zm_ (Kd.N_below (Kd.N_elderB zt13_7 gb432 (Nat.le_of_eq hg.symm)) hb);have n3_:=zm_ (blk_below (g:=gb412) (o:=.cells #[.slice Ao12 t409.length co12] 28 (0,0)) zt13_4 hb);have n4_:=zm_ (below_step zt13_2 hb);have n5_:=zm_ (hbox);have n6_:=zm_ ((by rw [hg];exact (below_size zt13_2) : w.heap.size ≤ gb432));have n7_:=zm_ ((by rw [hg];exact (below_size zt13_2) : w.heap.size ≤ gb432));have n8_:=zm_ ((by rw [hg];exact Nat.ne_of_lt (blk_lt (g:=gb412) (o:=.cells #[.slice Ao12 t409.length co12] 28 (0,0)) zt13_4) : gb412 ≠ gb432));have n9_:=zm_ ((by rw [hg];exact Nat.ne_of_gt (blk_lt (g:=gb412) (o:=.cells #[.slice Ao12 t409.length co12] 28 (0,0)) zt13_4) : gb432 ≠ gb412));clear HO_5;clear HO_413000;clear HO431;clear BK412;clear HB;have HO_5:=n0_;have HO_413000:=n1_;have HO431:=n2_;have BK412:=n3_;have HB:=n4_;have BK432:=n5_;have GW432:=n6_;have GE432:=n7_;have NB412_432:=n8_;have NB432_412:=n9_;clear n0_ n1_ n2_ n3_ n4_ n5_ n6_ n7_ n8_ n9_;clear hb hbox hg;obtain ⟨Ao65,co65,eo65⟩:=Kd.N_slice HO431.out;subst eo65;have hnb66:=NB432_412.out;have hnc66:=NB412_432.out;have hcz67_0 : w64.cell? ⟨gb432,0,none⟩ = some (.slice none 0 0):=(zc_ BK432.out 0).trans rfl;have hfz67_0:=zf_ BK432.out 0))
           have n0_ : Aside0 (Kd.R Kd.string 9 (w64.setCell ⟨gb432,0,none⟩ (.slice Ao65 t429.length co65)) w.heap.size (fun _ => True) (.slice Ao21 t416.length co21) t416):=⟨by (with_reducible repeat (first|apply Kd.R_alloc|apply Kd.R_drewN|apply Kd.R_drew));exact Kd.R_mono (Kd.R_far (p:=⟨gb432,0,none⟩) (Kd.R_types HO_5.out BK432.out (by decide)) (fun _ hk => hk.2) (.slice Ao65 t429.length co65)) (fun _ hk => trivial)⟩
           have n1_ : Aside0 (Kd.N k34 34 (w64.setCell ⟨gb432,0,none⟩ (.slice Ao65 t429.length co65)) w.heap.size (fun k_ => some k_ ≠ (.slice Ao21 t416.length co21 : Value).ownBlock ∧ some k_ ≠ (.slice Ao65 t429.length co65 : Value).ownBlock ∧ k_ ≠ gb412 ∧ k_ ≠ gb432) (.slice Ao12 t409.length co12) t409):=⟨by (with_reducible repeat (first|apply Kd.N_alloc|apply Kd.N_drewN|apply Kd.N_drew));exact Kd.N_mono (Kd.N_far (p:=⟨gb432,0,none⟩) (Kd.N_mono HO_413000.out (fun k_ hk => (⟨hk,hk.2⟩ : _ ∧ k_ ≠ gb432))) (fun _ hk => hk.2) (.slice Ao65 t429.length co65)) (fun _ hk => ⟨hk.1.1.1.1,⟨hk.1.1.2,⟨hk.1.1.1.2,hk.1.2⟩⟩⟩)⟩
           have n2_ : Aside0 (Kd.N k34 34 (w64.setCell ⟨gb432,0,none⟩ (.slice Ao65 t429.length co65)) w.heap.size (fun k_ => some k_ ≠ (.slice Ao21 t416.length co21 : Value).ownBlock ∧ some k_ ≠ (.slice Ao12 t409.length co12 : Value).ownBlock ∧ k_ ≠ gb412 ∧ k_ ≠ gb432) (.slice Ao65 t429.length co65) t429):=⟨by (with_reducible repeat (first|apply Kd.N_alloc|apply Kd.N_drewN|apply Kd.N_drew));exact Kd.N_mono (Kd.N_far (p:=⟨gb432,0,none⟩) (Kd.N_mono HO431.out (fun k_ hk => (⟨hk,hk.2⟩ : _ ∧ k_ ≠ gb432))) (fun _ hk => hk.2) (.slice Ao65 t429.length co65)) (fun _ hk => ⟨hk.1.1.1,⟨hk.1.1.2.1,⟨hk.1.1.2.2,hk.1.2⟩⟩⟩)⟩
           have n3_ : Aside0 ((w64.setCell ⟨gb432,0,none⟩ (.slice Ao65 t429.length co65)).heap[gb412]? = some (.cells #[.slice Ao12 t409.length co12] 28 (0,0))):=⟨by (with_reducible repeat first|refine zl_ ?_ _|refine zr_ ?_|refine zk_ ?_ _);refine blk_far ?_ NB412_432.out _;(with_reducible repeat first|refine zl_ ?_ _|refine zr_ ?_|refine zk_ ?_ _);exact BK412.out⟩
           have n4_ : Aside0 ((w64.setCell ⟨gb432,0,none⟩ (.slice Ao65 t429.length co65)).heap[gb432]? = some (.cells #[.slice Ao65 t429.length co65] 28 (0,0))):=⟨by (with_reducible repeat first|refine zl_ ?_ _|refine zr_ ?_|refine zk_ ?_ _);refine blk_put (cs:=#[.slice none 0 0]) ?_ 0 _ rfl;(with_reducible repeat first|refine zl_ ?_ _|refine zr_ ?_|refine zk_ ?_ _);exact BK432.out⟩
           have n5_ : Aside0 (Below w.heap.size w (w64.setCell ⟨gb432,0,none⟩ (.slice Ao65 t429.length co65))):=⟨by repeat (first|(with_reducible first|exact HB.out|apply za_|apply zn_|apply zd_|refine zs_ ?_ GE412.out|refine zs_ ?_ GE432.out)|exact HB.out)⟩
           (try clear HO_5)
           (try clear HO_413000)
           (try clear HO431)
           (try clear BK412)
           (try clear BK432)
           (try clear HB)
           generalize (w64.setCell ⟨gb432,0,none⟩ (.slice Ao65 t429.length co65)) = w68 at n0_ n1_ n2_ n3_ n4_ n5_ ⊢
           have HO_5:=n0_
           have HO_413000:=n1_
           have HO431:=n2_
           have BK412:=n3_
           have BK432:=n4_
           have HB:=n5_
           clear n0_ n1_ n2_ n3_ n4_ n5_
           have n0_:=zm_ (Kd.R_drew HO_5.out)
           have n1_:=zm_ (Kd.N_drew HO_413000.out)
           have n2_:=zm_ (Kd.N_drew HO431.out)
           have n3_:=zm_ (zr_ BK412.out)
           have n4_:=zm_ (zr_ BK432.out)
           have n5_:=zm_ (zd_ HB.out)
           clear HO_5
           clear HO_413000
           clear HO431
           clear BK412
           clear BK432
           clear HB
           have HO_5:=n0_
           have HO_413000:=n1_
           have HO431:=n2_
           have BK412:=n3_
           have BK432:=n4_
           have HB:=n5_
           clear n0_ n1_ n2_ n3_ n4_ n5_
           refine start_ (n:=37) (S:=fun w' => w'.cell? ⟨gb432,0,none⟩ = some (.slice Ao65 t429.length co65) ∧ w'.cell? ⟨gb412,0,none⟩ = some (.slice Ao12 t409.length co12)) (ds:=[]) #[false,false,false,false,false,false,false,false,false,false,false,false,false,false,false,false,false,false,false,false,false,false,false,false,false,false,false,false,false,false,false,false,false,false,false,false,false] (by kernel_rfl) rfl rfl ⟨(zc_ BK432.out 0).trans rfl,(zc_ BK412.out 0).trans rfl⟩ (fun hHeld => ?_);refine with_tabW laws_FnExprFree.tab14 laws_FnExprFree.bits14 (fun HT_ HW_ => ?_)
           generalize w68.drew = w69 at HO_5 HO_413000 HO431 BK412 BK432 HB hHeld ⊢
           refine pure_ (i:=0) (N:=some 61) (v:=?_) (a':=?_) #[true,false,false,false,false,false,false,false,false,false,false,false,false,false,false,false,false,false,false,false,false,false,false,false,false,false,false,false,false,false,false,false,false,false,false,false,false] rfl rfl (any_of HT_.out (by kernel_rfl)) (fun _ _ _ h => h) (Or.inl ⟨by rfl,?_⟩) ?_ ?_
           rotate_left
           ·intro w'
            go_simp
            with_reducible rfl
           rotate_left
           ·simp only [Act.put,List.setIfInBounds_toArray,List.set_cons_zero,List.set_cons_succ,i64_w,i32_w,IntKind.wrap_u8]
            rfl
           refine pure_ (i:=1) (N:=some 62) (v:=?_) (a':=?_) #[true,true,false,false,false,false,false,false,false,false,false,false,false,false,false,false,false,false,false,false,false,false,false,false,false,false,false,false,false,false,false,false,false,false,false,false,false] rfl rfl (any_of HT_.out (by kernel_rfl)) (fun _ _ _ h => h) (Or.inl ⟨by rfl,?_⟩) ?_ ?_
           rotate_left
           ·intro w'
            go_simp
            with_reducible rfl
           rotate_left
           ·simp only [Act.put,List.setIfInBounds_toArray,List.set_cons_zero,List.set_cons_succ,i64_w,i32_w,IntKind.wrap_u8]
            rfl
           refine pure_ (i:=2) (N:=some 63) (v:=?_) (a':=?_) #[true,true,true,false,false,false,false,false,false,false,false,false,false,false,false,false,false,false,false,false,false,false,false,false,false,false,false,false,false,false,false,false,false,false,false,false,false] rfl rfl (any_of HT_.out (by kernel_rfl)) (fun _ _ _ h => h) (Or.inl ⟨by rfl,?_⟩) ?_ ?_
           rotate_left
           ·intro w'
            go_simp
            with_reducible rfl
           rotate_left
           ·simp only [Act.put,List.setIfInBounds_toArray,List.set_cons_zero,List.set_cons_succ,i64_w,i32_w,IntKind.wrap_u8]
            rfl
           refine pure_ (i:=3) (N:=some 64) (v:=?_) (a':=?_) #[true,true,true,true,false,false,false,false,false,false,false,false,false,false,false,false,false,false,false,false,false,false,false,false,false,false,false,false,false,false,false,false,false,false,false,false,false] rfl rfl (any_of HT_.out (by kernel_rfl)) (fun _ _ _ h => h) (Or.inl ⟨by rfl,?_⟩) ?_ ?_
           rotate_left
           ·intro w'
            go_simp
            with_reducible rfl
           rotate_left
           ·simp only [Act.put,List.setIfInBounds_toArray,List.set_cons_zero,List.set_cons_succ,i64_w,i32_w,IntKind.wrap_u8]
            rfl
           refine pure_ (i:=4) (N:=some 65) (v:=?_) (a':=?_) #[true,true,true,true,true,false,false,false,false,false,false,false,false,false,false,false,false,false,false,false,false,false,false,false,false,false,false,false,false,false,false,false,false,false,false,false,false] rfl rfl (any_of HT_.out (by kernel_rfl)) (fun _ _ _ h => h) (Or.inl ⟨by rfl,?_⟩) ?_ ?_
           rotate_left
           ·intro w'
            go_simp
            with_reducible rfl
           rotate_left
           ·simp only [Act.put,List.setIfInBounds_toArray,List.set_cons_zero,List.set_cons_succ,i64_w,i32_w,IntKind.wrap_u8]
            rfl
           refine pure_ (i:=5) (N:=some 66) (v:=?_) (a':=?_) #[true,true,true,true,true,true,false,false,false,false,false,false,false,false,false,false,false,false,false,false,false,false,false,false,false,false,false,false,false,false,false,false,false,false,false,false,false] rfl rfl (any_of HT_.out (by kernel_rfl)) (fun _ _ _ h => h) (Or.inl ⟨by rfl,?_⟩) ?_ ?_
           rotate_left
           ·intro w'
            go_simp
            with_reducible rfl
           rotate_left
           ·simp only [Act.put,List.setIfInBounds_toArray,List.set_cons_zero,List.set_cons_succ,i64_w,i32_w,IntKind.wrap_u8]
            rfl
           refine pure_ (i:=6) (N:=some 67) (v:=?_) (a':=?_) #[true,true,true,true,true,true,true,false,false,false,false,false,false,false,false,false,false,false,false,false,false,false,false,false,false,false,false,false,false,false,false,false,false,false,false,false,false] rfl rfl (any_of HT_.out (by kernel_rfl)) (fun _ _ _ h => h) (Or.inl ⟨by rfl,?_⟩) ?_ ?_
           rotate_left
           ·intro w'
            go_simp
            with_reducible rfl
           rotate_left
           ·simp only [Act.put,List.setIfInBounds_toArray,List.set_cons_zero,List.set_cons_succ,i64_w,i32_w,IntKind.wrap_u8]
            rfl
           refine pure_ (i:=7) (N:=some 68) (v:=?_) (a':=?_) #[true,true,true,true,true,true,true,true,false,false,false,false,false,false,false,false,false,false,false,false,false,false,false,false,false,false,false,false,false,false,false,false,false,false,false,false,false] rfl rfl (any_of HT_.out (by kernel_rfl)) (fun _ _ _ h => h) (Or.inl ⟨by rfl,?_⟩) ?_ ?_
           rotate_left
           ·intro w'
            go_simp
            with_reducible rfl
           rotate_left
           ·simp only [Act.put,List.setIfInBounds_toArray,List.set_cons_zero,List.set_cons_succ,i64_w,i32_w,IntKind.wrap_u8]
            rfl
           refine pure_ (i:=8) (N:=some 69) (v:=?_) (a':=?_) #[true,true,true,true,true,true,true,true,true,false,false,false,false,false,false,false,false,false,false,false,false,false,false,false,false,false,false,false,false,false,false,false,false,false,false,false,false] rfl rfl (any_of HT_.out (by kernel_rfl)) (fun _ _ _ h => h) (Or.inl ⟨by rfl,?_⟩) ?_ ?_
           rotate_left
           ·intro w'
            go_simp
            with_reducible rfl
           rotate_left
           ·simp only [Act.put,List.setIfInBounds_toArray,List.set_cons_zero,List.set_cons_succ,i64_w,i32_w,IntKind.wrap_u8]
            rfl
           refine take_ (i:=9) (N:=some 70) (v:=?_) (a':=?_) #[true,true,true,true,true,true,true,true,true,true,false,false,false,false,false,false,false,false,false,false,false,false,false,false,false,false,false,false,false,false,false,false,false,false,false,false,false] rfl rfl (take_ofW HT_.out HW_.out (by kernel_rfl)) (fun _ _ _ h => h) (Or.inl ⟨by rfl,?_⟩) hHeld ?_ ?_
           rotate_left
           ·rintro w' ⟨s0,s1⟩
            go_simp
            with_reducible rfl
           rotate_left
           ·simp only [Act.put,List.setIfInBounds_toArray,List.set_cons_zero,List.set_cons_succ,i64_w,i32_w,IntKind.wrap_u8]
            rfl
           refine take_ (i:=11) (N:=some 72) (v:=?_) (a':=?_) #[true,true,true,true,true,true,true,true,true,true,false,true,false,false,false,false,false,false,false,false,false,false,false,false,false,false,false,false,false,false,false,false,false,false,false,false,false] rfl rfl (take_ofW HT_.out HW_.out (by kernel_rfl)) (fun _ _ _ h => h) (Or.inl ⟨by rfl,?_⟩) hHeld ?_ ?_
           rotate_left
           ·rintro w' ⟨s0,s1⟩
            go_simp
            with_reducible rfl
           rotate_left
           ·simp only [Act.put,List.setIfInBounds_toArray,List.set_cons_zero,List.set_cons_succ,i64_w,i32_w,IntKind.wrap_u8]
            rfl
           refine one_ (i:=10) (N:=some 71) #[true,true,true,true,true,true,true,true,true,true,true,true,false,false,false,false,false,false,false,false,false,false,false,false,false,false,false,false,false,false,false,false,false,false,false,false,false] rfl rfl (one_of HT_.out (by kernel_rfl)) (by decide) (fun K hK => ?_)
           refine goes_ Try.func32 (by kernel_rfl) rfl #[.agg #[.slice Ao65 t429.length co65]] (by rfl) rfl rfl zq_ ?_
           with_reducible refine (impl_FreeOf.calls k1 _ _ t429 t433 _ ?side1 ?side2 A35.out).mono ?_
           (case side1 => repeat (first|exact (Kd.N_reads' HO431.out).2.2|(with_reducible refine Kd.C_alloc ?_ _)|(with_reducible refine Kd.C_drewN ?_ _)|(with_reducible refine Kd.C_drew ?_)))
           (case side2 => exact (Kd.N_reads' HO431.out).2.1)
           rintro e w70 ⟨v434,rfl,ho0,hb⟩
           refine ⟨_,rfl,?_⟩
           have n0_:=zm_ (Kd.R_elder' zt13_3 (Kd.R_base ho0) hb)
           have n1_:=zm_ (Kd.N_elder' zt13_5 (Kd.R_base ho0) hb)
           have n2_:=zm_ (Kd.N_elder' zt13_7 (Kd.R_base ho0) hb)
           have n3_:=zm_ (Kd.R_lower (Kd.R_new' ho0 (Kd.R_lt zt13_3)) (below_size zt13_1))
           have n4_:=zm_ (blk_below (g:=gb412) (o:=.cells #[.slice Ao12 t409.length co12] 28 (0,0)) zt13_4 hb)
           have n5_:=zm_ (blk_below (g:=gb432) (o:=.cells #[.slice Ao65 t429.length co65] 28 (0,0)) zt13_8 hb)
           have n6_:=zm_ (below_step zt13_1 hb)
           clear HO_5
           clear HO_413000
           clear HO431
           clear BK412
           clear BK432
           clear HB
           have HO_5:=n0_
           have HO_413000:=n1_
           have HO431:=n2_
           have HO435:=n3_
           have BK412:=n4_
           have BK432:=n5_
           have HB:=n6_
           clear n0_ n1_ n2_ n3_ n4_ n5_ n6_
           (try clear hb)
           (try clear hb2)
           (try clear hk)
           (try clear hi)
           (try clear ho0)
           refine hK.out _ _ ⟨(zc_ BK432.out 0).trans rfl,(zc_ BK412.out 0).trans rfl⟩ (fun hHeld => ?_)
           clear hK K
           refine norm_ (a':=?_) ?_ ?_
           rotate_left
           ·show Act.put _ (some 71) _ = _
            simp only [Act.put,List.setIfInBounds_toArray,List.set_cons_zero,List.set_cons_succ,i64_w,i32_w,IntKind.wrap_u8]
            rfl
           refine one_ (i:=12) (N:=some 73) #[true,true,true,true,true,true,true,true,true,true,true,true,true,false,false,false,false,false,false,false,false,false,false,false,false,false,false,false,false,false,false,false,false,false,false,false,false] rfl rfl (one_of HT_.out (by kernel_rfl)) (by decide) (fun K hK => ?_)
           refine goes_ Try.func31 (by kernel_rfl) rfl #[.agg #[.slice Ao65 t429.length co65]] (by rfl) rfl rfl zq_ ?_
           with_reducible refine (spec_FreeOf.calls k1 _ _ t429 t436 _ ?side1 ?side2 A36.out).mono ?_
           (case side1 => repeat (first|exact (Kd.N_reads' HO431.out).2.2|(with_reducible refine Kd.C_alloc ?_ _)|(with_reducible refine Kd.C_drewN ?_ _)|(with_reducible refine Kd.C_drew ?_)))
           (case side2 => exact (Kd.N_reads' HO431.out).2.1)
           rintro e w71 ⟨v437,rfl,ho0,hb⟩
           refine ⟨_,rfl,?_⟩
           have n0_:=zm_ (Kd.R_elder' zt13_3 (Kd.R_base ho0) hb)
           have n1_:=zm_ (Kd.N_elder' zt13_5 (Kd.R_base ho0) hb)
           have n2_:=zm_ (Kd.N_elder' zt13_7 (Kd.R_base ho0) hb)
           have n3_:=zm_ (Kd.R_elder' zt13_6 (Kd.R_base ho0) hb)
           have n4_:=zm_ (Kd.R_lower (Kd.R_new' (Kd.R_new' ho0 (Kd.R_lt zt13_3)) (Kd.R_lt zt13_6)) (below_size zt13_1))
           have n5_:=zm_ (blk_below (g:=gb412) (o:=.cells #[.slice Ao12 t409.length co12] 28 (0,0)) zt13_4 hb)
           have n6_:=zm_ (blk_below (g:=gb432) (o:=.cells #[.slice Ao65 t429.length co65] 28 (0,0)) zt13_8 hb)
           have n7_:=zm_ (below_step zt13_1 hb)
           clear HO_5
           clear HO_413000
           clear HO431
           clear HO435
           clear BK412
           clear BK432
           clear HB
           have HO_5:=n0_
           have HO_413000:=n1_
           have HO431:=n2_
           have HO435:=n3_
           have HO438:=n4_
           have BK412:=n5_
           have BK432:=n6_
           have HB:=n7_
           clear n0_ n1_ n2_ n3_ n4_ n5_ n6_ n7_
           (try clear hb)
           (try clear hb2)
           (try clear hk)
           (try clear hi)
           (try clear ho0)
           obtain ⟨Ao72,co72,eo72⟩:=Kd.R_slice HO435.out
           (first|subst eo72|(injection eo72 with f1_ f2_ f3_;have f4_:=f1_.symm;have f5_:=f3_.symm;clear f1_ f2_ f3_;subst f4_;subst f5_))
           obtain ⟨Ao73,co73,eo73⟩:=Kd.R_slice HO438.out
           (first|subst eo73|(injection eo73 with f1_ f2_ f3_;have f4_:=f1_.symm;have f5_:=f3_.symm;clear f1_ f2_ f3_;subst f4_;subst f5_))
           refine hK.out _ _ ⟨(zc_ BK432.out 0).trans rfl,(zc_ BK412.out 0).trans rfl⟩ (fun hHeld => ?_)
           clear hK K
           refine norm_ (a':=?_) ?_ ?_
           rotate_left
           ·show Act.put _ (some 73) _ = _
            simp only [Act.put,List.setIfInBounds_toArray,List.set_cons_zero,List.set_cons_succ,i64_w,i32_w,IntKind.wrap_u8]
            rfl
           refine one_ (i:=13) (N:=some 74) #[true,true,true,true,true,true,true,true,true,true,true,true,true,true,false,false,false,false,false,false,false,false,false,false,false,false,false,false,false,false,false,false,false,false,false,false,false] rfl rfl (one_of HT_.out (by kernel_rfl)) (by decide) (fun K hK => ?_)
           refine goes_ Try.func40 (by kernel_rfl) rfl #[.slice Ao72 t433.length co72,.slice Ao73 t436.length co73] (by rfl) rfl rfl zq_ ?_
           with_reducible refine (laws_sameTexts.calls k1 _ _ t433 _ _ t436 true _ ?side1 ?side2 ?side3 ?side4 A37.out).mono ?_
           (case side1 => repeat (first|exact (Kd.R_reads' HO435.out).2.2|(with_reducible refine Kd.C_alloc ?_ _)|(with_reducible refine Kd.C_drewN ?_ _)|(with_reducible refine Kd.C_drew ?_)))
           (case side2 => exact (Kd.R_reads' HO435.out).2.1)
           (case side3 => repeat (first|exact (Kd.R_reads' HO438.out).2.2|(with_reducible refine Kd.C_alloc ?_ _)|(with_reducible refine Kd.C_drewN ?_ _)|(with_reducible refine Kd.C_drew ?_)))
           (case side4 => exact (Kd.R_reads' HO438.out).2.1)
           rintro e w' ⟨rfl,⟨nd,rfl⟩⟩
           refine ⟨_,rfl,?_⟩
           refine hK.out _ _ ⟨(zc_ BK432.out 0).trans rfl,(zc_ BK412.out 0).trans rfl⟩ (fun hHeld => ?_)
           clear hK K
           refine norm_ (a':=?_) ?_ ?_
           rotate_left
           ·show Act.put _ (some 74) _ = _
            simp only [Act.put,List.setIfInBounds_toArray,List.set_cons_zero,List.set_cons_succ,i64_w,i32_w,IntKind.wrap_u8]
            rfl
           refine pure_ (i:=14) (N:=some 75) (v:=?_) (a':=?_) #[true,true,true,true,true,true,true,true,true,true,true,true,true,true,true,false,false,false,false,false,false,false,false,false,false,false,false,false,false,false,false,false,false,false,false,false,false] rfl rfl (any_of HT_.out (by kernel_rfl)) (fun _ _ _ h => h) (Or.inl ⟨by rfl,?_⟩) ?_ ?_
           rotate_left
           ·intro w'
            go_simp
            with_reducible rfl
           rotate_left
           ·simp only [Act.put,List.setIfInBounds_toArray,List.set_cons_zero,List.set_cons_succ,i64_w,i32_w,IntKind.wrap_u8]
            rfl
           refine pure_ (i:=15) (N:=some 76) (v:=?_) (a':=?_) #[true,true,true,true,true,true,true,true,true,true,true,true,true,true,true,true,false,false,false,false,false,false,false,false,false,false,false,false,false,false,false,false,false,false,false,false,false] rfl rfl (any_of HT_.out (by kernel_rfl)) (fun _ _ _ h => h) (Or.inl ⟨by rfl,?_⟩) ?_ ?_
           rotate_left
           ·intro w'
            go_simp
            with_reducible rfl
           rotate_left
           ·simp only [Act.put,List.setIfInBounds_toArray,List.set_cons_zero,List.set_cons_succ,i64_w,i32_w,IntKind.wrap_u8]
            rfl
           refine pure_ (i:=16) (N:=some 77) (v:=?_) (a':=?_) #[true,true,true,true,true,true,true,true,true,true,true,true,true,true,true,true,true,false,false,false,false,false,false,false,false,false,false,false,false,false,false,false,false,false,false,false,false] rfl rfl (any_of HT_.out (by kernel_rfl)) (fun _ _ _ h => h) (Or.inl ⟨by rfl,?_⟩) ?_ ?_
           rotate_left
           ·intro w'
            go_simp
            with_reducible rfl
           rotate_left
           ·simp only [Act.put,List.setIfInBounds_toArray,List.set_cons_zero,List.set_cons_succ,i64_w,i32_w,IntKind.wrap_u8]
            rfl
           refine take_ (i:=17) (N:=some 78) (v:=?_) (a':=?_) #[true,true,true,true,true,true,true,true,true,true,true,true,true,true,true,true,true,true,false,false,false,false,false,false,false,false,false,false,false,false,false,false,false,false,false,false,false] rfl rfl (take_ofW HT_.out HW_.out (by kernel_rfl)) (fun _ _ _ h => h) (Or.inl ⟨by rfl,?_⟩) hHeld ?_ ?_
           rotate_left
           ·rintro w' ⟨s0,s1⟩
            go_simp
            with_reducible rfl
           rotate_left
           ·simp only [Act.put,List.setIfInBounds_toArray,List.set_cons_zero,List.set_cons_succ,i64_w,i32_w,IntKind.wrap_u8]
            rfl
           refine one_ (i:=18) (N:=some 79) #[true,true,true,true,true,true,true,true,true,true,true,true,true,true,true,true,true,true,true,false,false,false,false,false,false,false,false,false,false,false,false,false,false,false,false,false,false] rfl rfl (one_of HT_.out (by kernel_rfl)) (by decide) (fun K hK => ?_)
           refine goes_ Try.func31 (by kernel_rfl) rfl #[.agg #[.slice Ao12 t409.length co12]] (by rfl) rfl rfl zq_ ?_
           with_reducible refine (spec_FreeOf.calls k1 _ _ t409 t440 _ ?side1 ?side2 A39.out).mono ?_
           (case side1 => repeat (first|exact (Kd.N_reads' HO_413000.out).2.2|(with_reducible refine Kd.C_alloc ?_ _)|(with_reducible refine Kd.C_drewN ?_ _)|(with_reducible refine Kd.C_drew ?_)))
           (case side2 => exact (Kd.N_reads' HO_413000.out).2.1)
           rintro e w74 ⟨v441,rfl,ho0,hb⟩
           refine ⟨_,rfl,?_⟩
           have n0_:=zm_ (Kd.R_elder' zt13_3 (Kd.R_base ho0) hb)
           have n1_:=zm_ (Kd.N_elder' zt13_5 (Kd.R_base ho0) hb)
           have n2_:=zm_ (Kd.N_elder' zt13_7 (Kd.R_base ho0) hb)
           have n3_:=zm_ (Kd.R_elder' zt13_6 (Kd.R_base ho0) hb)
           have n4_:=zm_ (Kd.R_elder' zt13_9 (Kd.R_base ho0) hb)
           have n5_:=zm_ (Kd.R_lower (Kd.R_new' (Kd.R_new' (Kd.R_new' ho0 (Kd.R_lt zt13_3)) (Kd.R_lt zt13_6)) (Kd.R_lt zt13_9)) (below_size zt13_1))
           have n6_:=zm_ (blk_below (g:=gb412) (o:=.cells #[.slice Ao12 t409.length co12] 28 (0,0)) zt13_4 hb)
           have n7_:=zm_ (blk_below (g:=gb432) (o:=.cells #[.slice Ao65 t429.length co65] 28 (0,0)) zt13_8 hb)
           have n8_:=zm_ (below_step zt13_1 hb)
           clear HO_5
           clear HO_413000
           clear HO431
           clear HO435
           clear HO438
           clear BK412
           clear BK432
           clear HB
           have HO_5:=n0_
           have HO_413000:=n1_
           have HO431:=n2_
           have HO435:=n3_
           have HO438:=n4_
           have HO442:=n5_
           have BK412:=n6_
           have BK432:=n7_
           have HB:=n8_
           clear n0_ n1_ n2_ n3_ n4_ n5_ n6_ n7_ n8_
           (try clear hb)
           (try clear hb2)
           (try clear hk)
           (try clear hi)
           (try clear ho0)
           obtain ⟨Ao75,co75,eo75⟩:=Kd.R_slice HO442.out
           (first|subst eo75|(injection eo75 with f1_ f2_ f3_;have f4_:=f1_.symm;have f5_:=f3_.symm;clear f1_ f2_ f3_;subst f4_;subst f5_))
           refine hK.out _ _ ⟨(zc_ BK432.out 0).trans rfl,(zc_ BK412.out 0).trans rfl⟩ (fun hHeld => ?_)
           clear hK K
           refine norm_ (a':=?_) ?_ ?_
           rotate_left
           ·show Act.put _ (some 79) _ = _
            simp only [Act.put,List.setIfInBounds_toArray,List.set_cons_zero,List.set_cons_succ,i64_w,i32_w,IntKind.wrap_u8]
            rfl
           refine one_ (i:=19) (N:=some 80) #[true,true,true,true,true,true,true,true,true,true,true,true,true,true,true,true,true,true,true,true,false,false,false,false,false,false,false,false,false,false,false,false,false,false,false,false,false] rfl rfl (one_of HT_.out (by kernel_rfl)) (by decide) (fun K hK => ?_)
           refine goes_ Try.func40 (by kernel_rfl) rfl #[.slice Ao21 t416.length co21,.slice Ao75 t440.length co75] (by rfl) rfl rfl zq_ ?_
           with_reducible refine (laws_sameTexts.calls k1 _ _ t416 _ _ t440 true _ ?side1 ?side2 ?side3 ?side4 A40.out).mono ?_
           (case side1 => repeat (first|exact (Kd.R_reads' HO_5.out).2.2|(with_reducible refine Kd.C_alloc ?_ _)|(with_reducible refine Kd.C_drewN ?_ _)|(with_reducible refine Kd.C_drew ?_)))
           (case side2 => exact (Kd.R_reads' HO_5.out).2.1)
           (case side3 => repeat (first|exact (Kd.R_reads' HO442.out).2.2|(with_reducible refine Kd.C_alloc ?_ _)|(with_reducible refine Kd.C_drewN ?_ _)|(with_reducible refine Kd.C_drew ?_)))
           (case side4 => exact (Kd.R_reads' HO442.out).2.1)
           rintro e w' ⟨rfl,⟨nd,rfl⟩⟩
           refine ⟨_,rfl,?_⟩
           refine hK.out _ _ ⟨(zc_ BK432.out 0).trans rfl,(zc_ BK412.out 0).trans rfl⟩ (fun hHeld => ?_)
           clear hK K
           refine norm_ (a':=?_) ?_ ?_
           rotate_left
           ·show Act.put _ (some 80) _ = _
            simp only [Act.put,List.setIfInBounds_toArray,List.set_cons_zero,List.set_cons_succ,i64_w,i32_w,IntKind.wrap_u8]
            rfl
           refine pure_ (i:=20) (N:=some 81) (v:=?_) (a':=?_) #[true,true,true,true,true,true,true,true,true,true,true,true,true,true,true,true,true,true,true,true,true,false,false,false,false,false,false,false,false,false,false,false,false,false,false,false,false] rfl rfl (any_of HT_.out (by kernel_rfl)) (fun _ _ _ h => h) (Or.inl ⟨by rfl,?_⟩) ?_ ?_
           rotate_left
           ·intro w'
            go_simp
            with_reducible rfl
           rotate_left
           ·simp only [Act.put,List.setIfInBounds_toArray,List.set_cons_zero,List.set_cons_succ,i64_w,i32_w,IntKind.wrap_u8]
            rfl
           refine pure_ (i:=21) (N:=some 82) (v:=?_) (a':=?_) #[true,true,true,true,true,true,true,true,true,true,true,true,true,true,true,true,true,true,true,true,true,true,false,false,false,false,false,false,false,false,false,false,false,false,false,false,false] rfl rfl (any_of HT_.out (by kernel_rfl)) (fun _ _ _ h => h) (Or.inl ⟨by rfl,?_⟩) ?_ ?_
           rotate_left
           ·intro w'
            go_simp
            with_reducible rfl
           rotate_left
           ·simp only [Act.put,List.setIfInBounds_toArray,List.set_cons_zero,List.set_cons_succ,i64_w,i32_w,IntKind.wrap_u8]
            rfl
           refine pure_ (i:=22) (N:=some 83) (v:=?_) (a':=?_) #[true,true,true,true,true,true,true,true,true,true,true,true,true,true,true,true,true,true,true,true,true,true,true,false,false,false,false,false,false,false,false,false,false,false,false,false,false] rfl rfl (any_of HT_.out (by kernel_rfl)) (fun _ _ _ h => h) (Or.inl ⟨by rfl,?_⟩) ?_ ?_
           rotate_left
           ·intro w'
            go_simp
            with_reducible rfl
           rotate_left
           ·simp only [Act.put,List.setIfInBounds_toArray,List.set_cons_zero,List.set_cons_succ,i64_w,i32_w,IntKind.wrap_u8]
            rfl
           refine pure_ (i:=23) (N:=some 84) (v:=?_) (a':=?_) #[true,true,true,true,true,true,true,true,true,true,true,true,true,true,true,true,true,true,true,true,true,true,true,true,false,false,false,false,false,false,false,false,false,false,false,false,false] rfl rfl (any_of HT_.out (by kernel_rfl)) (fun _ _ _ h => h) (Or.inl ⟨by rfl,?_⟩) ?_ ?_
           rotate_left
           ·intro w'
            go_simp
            with_reducible rfl
           rotate_left
           ·simp only [Act.put,List.setIfInBounds_toArray,List.set_cons_zero,List.set_cons_succ,i64_w,i32_w,IntKind.wrap_u8]
            rfl
           refine pure_ (i:=24) (N:=some 85) (v:=?_) (a':=?_) #[true,true,true,true,true,true,true,true,true,true,true,true,true,true,true,true,true,true,true,true,true,true,true,true,true,false,false,false,false,false,false,false,false,false,false,false,false] rfl rfl (any_of HT_.out (by kernel_rfl)) (fun _ _ _ h => h) (Or.inl ⟨by rfl,?_⟩) ?_ ?_
           rotate_left
           ·intro w'
            go_simp
            with_reducible rfl
           rotate_left
           ·simp only [Act.put,List.setIfInBounds_toArray,List.set_cons_zero,List.set_cons_succ,i64_w,i32_w,IntKind.wrap_u8]
            rfl
           refine pure_ (i:=25) (N:=some 86) (v:=?_) (a':=?_) #[true,true,true,true,true,true,true,true,true,true,true,true,true,true,true,true,true,true,true,true,true,true,true,true,true,true,false,false,false,false,false,false,false,false,false,false,false] rfl rfl (any_of HT_.out (by kernel_rfl)) (fun _ _ _ h => h) (Or.inl ⟨by rfl,?_⟩) ?_ ?_
           rotate_left
           ·intro w'
            go_simp
            with_reducible rfl
           rotate_left
           ·simp only [Act.put,List.setIfInBounds_toArray,List.set_cons_zero,List.set_cons_succ,i64_w,i32_w,IntKind.wrap_u8]
            rfl
           refine take_ (i:=26) (N:=some 87) (v:=?_) (a':=?_) #[true,true,true,true,true,true,true,true,true,true,true,true,true,true,true,true,true,true,true,true,true,true,true,true,true,true,true,false,false,false,false,false,false,false,false,false,false] rfl rfl (take_ofW HT_.out HW_.out (by kernel_rfl)) (fun _ _ _ h => h) (Or.inl ⟨by rfl,?_⟩) hHeld ?_ ?_
           rotate_left
           ·rintro w' ⟨s0,s1⟩
            go_simp
            with_reducible rfl
           rotate_left
           ·simp only [Act.put,List.setIfInBounds_toArray,List.set_cons_zero,List.set_cons_succ,i64_w,i32_w,IntKind.wrap_u8]
            rfl
           refine one_ (i:=27) (N:=some 88) #[true,true,true,true,true,true,true,true,true,true,true,true,true,true,true,true,true,true,true,true,true,true,true,true,true,true,true,true,false,false,false,false,false,false,false,false,false] rfl rfl (one_of HT_.out (by kernel_rfl)) (by decide) (fun K hK => ?_)
           refine goes_ Try.func31 (by kernel_rfl) rfl #[.agg #[.slice Ao12 t409.length co12]] (by rfl) rfl rfl zq_ ?_
           with_reducible refine (spec_FreeOf.calls k1 _ _ t409 t445 _ ?side1 ?side2 A59.out).mono ?_
           (case side1 => repeat (first|exact (Kd.N_reads' HO_413000.out).2.2|(with_reducible refine Kd.C_alloc ?_ _)|(with_reducible refine Kd.C_drewN ?_ _)|(with_reducible refine Kd.C_drew ?_)))
           (case side2 => exact (Kd.N_reads' HO_413000.out).2.1)
           rintro e w76 ⟨v446,rfl,ho0,hb⟩
           refine ⟨_,rfl,?_⟩
           have n0_:=zm_ (Kd.R_elder' zt13_3 (Kd.R_base ho0) hb)
           have n1_:=zm_ (Kd.N_elder' zt13_5 (Kd.R_base ho0) hb)
           have n2_:=zm_ (Kd.N_elder' zt13_7 (Kd.R_base ho0) hb)
           have n3_:=zm_ (Kd.R_elder' zt13_6 (Kd.R_base ho0) hb)
           have n4_:=zm_ (Kd.R_elder' zt13_9 (Kd.R_base ho0) hb)
           have n5_:=zm_ (Kd.R_elder' zt13_12 (Kd.R_base ho0) hb)
           have n6_:=zm_ (Kd.R_lower (Kd.R_new' (Kd.R_new' (Kd.R_new' (Kd.R_new' ho0 (Kd.R_lt zt13_3)) (Kd.R_lt zt13_6)) (Kd.R_lt zt13_9)) (Kd.R_lt zt13_12)) (below_size zt13_1))
           have n7_:=zm_ (blk_below (g:=gb412) (o:=.cells #[.slice Ao12 t409.length co12] 28 (0,0)) zt13_4 hb)
           have n8_:=zm_ (blk_below (g:=gb432) (o:=.cells #[.slice Ao65 t429.length co65] 28 (0,0)) zt13_8 hb)
           have n9_:=zm_ (below_step zt13_1 hb)
           clear HO_5
           clear HO_413000
           clear HO431
           clear HO435
           clear HO438
           clear HO442
           clear BK412
           clear BK432
           clear HB
           have HO_5:=n0_
           have HO_413000:=n1_
           have HO431:=n2_
           have HO435:=n3_
           have HO438:=n4_
           have HO442:=n5_
           have HO447:=n6_
           have BK412:=n7_
           have BK432:=n8_
           have HB:=n9_
           clear n0_ n1_ n2_ n3_ n4_ n5_ n6_ n7_ n8_ n9_
           (try clear hb)
           (try clear hb2)
           (try clear hk)
           (try clear hi)
           (try clear ho0)
           obtain ⟨Ao77,co77,eo77⟩:=Kd.R_slice HO447.out
           (first|subst eo77|(injection eo77 with f1_ f2_ f3_;have f4_:=f1_.symm;have f5_:=f3_.symm;clear f1_ f2_ f3_;subst f4_;subst f5_))
           refine hK.out _ _ ⟨(zc_ BK432.out 0).trans rfl,(zc_ BK412.out 0).trans rfl⟩ (fun hHeld => ?_)
           clear hK K
           refine norm_ (a':=?_) ?_ ?_
           rotate_left
           ·show Act.put _ (some 88) _ = _
            simp only [Act.put,List.setIfInBounds_toArray,List.set_cons_zero,List.set_cons_succ,i64_w,i32_w,IntKind.wrap_u8]
            rfl
           refine pure_ (i:=28) (N:=some 89) (v:=?_) (a':=?_) #[true,true,true,true,true,true,true,true,true,true,true,true,true,true,true,true,true,true,true,true,true,true,true,true,true,true,true,true,true,false,false,false,false,false,false,false,false] rfl rfl (any_of HT_.out (by kernel_rfl)) (fun _ _ _ h => h) (Or.inl ⟨by rfl,?_⟩) ?_ ?_
           rotate_left
           ·intro w'
            go_simp
            with_reducible rfl
           rotate_left
           ·simp only [Act.put,List.setIfInBounds_toArray,List.set_cons_zero,List.set_cons_succ,i64_w,i32_w,IntKind.wrap_u8]
            rfl
           refine pure_ (i:=29) (N:=some 90) (v:=?_) (a':=?_) #[true,true,true,true,true,true,true,true,true,true,true,true,true,true,true,true,true,true,true,true,true,true,true,true,true,true,true,true,true,true,false,false,false,false,false,false,false] rfl rfl (any_of HT_.out (by kernel_rfl)) (fun _ _ _ h => h) (Or.inl ⟨by rfl,?_⟩) ?_ ?_
           rotate_left
           ·intro w'
            go_simp
            with_reducible rfl
           rotate_left
           ·simp only [Act.put,List.setIfInBounds_toArray,List.set_cons_zero,List.set_cons_succ,i64_w,i32_w,IntKind.wrap_u8]
            rfl
           refine pure_ (i:=30) (N:=some 91) (v:=?_) (a':=?_) #[true,true,true,true,true,true,true,true,true,true,true,true,true,true,true,true,true,true,true,true,true,true,true,true,true,true,true,true,true,true,true,false,false,false,false,false,false] rfl rfl (any_of HT_.out (by kernel_rfl)) (fun _ _ _ h => h) (Or.inl ⟨by rfl,?_⟩) ?_ ?_
           rotate_left
           ·intro w'
            go_simp
            with_reducible rfl
           rotate_left
           ·simp only [Act.put,List.setIfInBounds_toArray,List.set_cons_zero,List.set_cons_succ,i64_w,i32_w,IntKind.wrap_u8]
            rfl
           refine pure_ (i:=31) (N:=some 92) (v:=?_) (a':=?_) #[true,true,true,true,true,true,true,true,true,true,true,true,true,true,true,true,true,true,true,true,true,true,true,true,true,true,true,true,true,true,true,true,false,false,false,false,false] rfl rfl (any_of HT_.out (by kernel_rfl)) (fun _ _ _ h => h) (Or.inl ⟨by rfl,?_⟩) ?_ ?_
           rotate_left
           ·intro w'
            go_simp
            with_reducible rfl
           rotate_left
           ·simp only [Act.put,List.setIfInBounds_toArray,List.set_cons_zero,List.set_cons_succ,i64_w,i32_w,IntKind.wrap_u8]
            rfl
           refine pure_ (i:=32) (N:=some 93) (v:=?_) (a':=?_) #[true,true,true,true,true,true,true,true,true,true,true,true,true,true,true,true,true,true,true,true,true,true,true,true,true,true,true,true,true,true,true,true,true,false,false,false,false] rfl rfl (any_of HT_.out (by kernel_rfl)) (fun _ _ _ h => h) (Or.inl ⟨by rfl,?_⟩) ?_ ?_
           rotate_left
           ·intro w'
            go_simp
            with_reducible rfl
           rotate_left
           ·simp only [Act.put,List.setIfInBounds_toArray,List.set_cons_zero,List.set_cons_succ,i64_w,i32_w,IntKind.wrap_u8]
            rfl
           refine take_ (i:=33) (N:=some 94) (v:=?_) (a':=?_) #[true,true,true,true,true,true,true,true,true,true,true,true,true,true,true,true,true,true,true,true,true,true,true,true,true,true,true,true,true,true,true,true,true,true,false,false,false] rfl rfl (take_ofW HT_.out HW_.out (by kernel_rfl)) (fun _ _ _ h => h) (Or.inl ⟨by rfl,?_⟩) hHeld ?_ ?_
           rotate_left
           ·rintro w' ⟨s0,s1⟩
            go_simp
            with_reducible rfl
           rotate_left
           ·simp only [Act.put,List.setIfInBounds_toArray,List.set_cons_zero,List.set_cons_succ,i64_w,i32_w,IntKind.wrap_u8]
            rfl
           refine one_ (i:=34) (N:=some 95) #[true,true,true,true,true,true,true,true,true,true,true,true,true,true,true,true,true,true,true,true,true,true,true,true,true,true,true,true,true,true,true,true,true,true,true,false,false] rfl rfl (one_of HT_.out (by kernel_rfl)) (by decide) (fun K hK => ?_)
           refine goes_ Try.func14 (by kernel_rfl) rfl #[.agg #[.slice Ao12 t409.length co12]] (by rfl) rfl rfl zq_ ?_
           with_reducible refine (impl_ExprOk.calls k1 _ _ t409 t448 _ ?side1 ?side2 A61.out).mono ?_
           (case side1 => repeat (first|exact (Kd.N_reads' HO_413000.out).2.2|(with_reducible refine Kd.C_alloc ?_ _)|(with_reducible refine Kd.C_drewN ?_ _)|(with_reducible refine Kd.C_drew ?_)))
           (case side2 => exact (Kd.N_reads' HO_413000.out).2.1)
           rintro e w78 ⟨rfl,hb⟩
           refine ⟨_,rfl,?_⟩
           have n0_:=zm_ (Kd.R_below zt13_3 hb)
           have n1_:=zm_ (Kd.N_below zt13_5 hb)
           have n2_:=zm_ (Kd.N_below zt13_7 hb)
           have n3_:=zm_ (Kd.R_below zt13_6 hb)
           have n4_:=zm_ (Kd.R_below zt13_9 hb)
           have n5_:=zm_ (Kd.R_below zt13_12 hb)
           have n6_:=zm_ (Kd.R_below (by (with_reducible repeat (first|apply Kd.R_alloc|apply Kd.R_drewN|apply Kd.R_drew));exact HO447.out) hb)
           have n7_:=zm_ (blk_below (g:=gb412) (o:=.cells #[.slice Ao12 t409.length co12] 28 (0,0)) zt13_4 hb)
           have n8_:=zm_ (blk_below (g:=gb432) (o:=.cells #[.slice Ao65 t429.length co65] 28 (0,0)) zt13_8 hb)
           have n9_:=zm_ (below_step zt13_1 hb)
           clear HO_5
           clear HO_413000
           clear HO431
           clear HO435
           clear HO438
           clear HO442
           clear HO447
           clear BK412
           clear BK432
           clear HB
           have HO_5:=n0_
           have HO_413000:=n1_
           have HO431:=n2_
           have HO435:=n3_
           have HO438:=n4_
           have HO442:=n5_
           have HO447:=n6_
           have BK412:=n7_
           have BK432:=n8_
           have HB:=n9_
           clear n0_ n1_ n2_ n3_ n4_ n5_ n6_ n7_ n8_ n9_
           (try clear hb)
           (try clear hb2)
           (try clear hk)
           (try clear hi)
           refine hK.out _ _ ⟨(zc_ BK432.out 0).trans rfl,(zc_ BK412.out 0).trans rfl⟩ (fun hHeld => ?_)
           clear hK K
           refine norm_ (a':=?_) ?_ ?_
           rotate_left
           ·show Act.put _ (some 95) _ = _
            simp only [Act.put,List.setIfInBounds_toArray,List.set_cons_zero,List.set_cons_succ,i64_w,i32_w,IntKind.wrap_u8]
            rfl
           refine pure_ (i:=35) (N:=some 96) (v:=?_) (a':=?_) #[true,true,true,true,true,true,true,true,true,true,true,true,true,true,true,true,true,true,true,true,true,true,true,true,true,true,true,true,true,true,true,true,true,true,true,true,false] rfl rfl (any_of HT_.out (by kernel_rfl)) (fun _ _ _ h => h) (Or.inl ⟨by rfl,?_⟩) ?_ ?_
           rotate_left
           ·intro w'
            go_simp
            with_reducible rfl
           rotate_left
           ·simp only [Act.put,List.setIfInBounds_toArray,List.set_cons_zero,List.set_cons_succ,i64_w,i32_w,IntKind.wrap_u8]
            rfl
           refine pure_ (i:=36) (N:=some 2) (v:=?_) (a':=?_) #[true,true,true,true,true,true,true,true,true,true,true,true,true,true,true,true,true,true,true,true,true,true,true,true,true,true,true,true,true,true,true,true,true,true,true,true,true] rfl rfl (any_of HT_.out (by kernel_rfl)) (fun _ _ _ h => h) (Or.inl ⟨by rfl,?_⟩) ?_ ?_
           rotate_left
           ·intro w'
            go_simp
            with_reducible rfl
           rotate_left
           ·simp only [Act.put,List.setIfInBounds_toArray,List.set_cons_zero,List.set_cons_succ,i64_w,i32_w,IntKind.wrap_u8]
            rfl
           refine done_ (done_of HT_.out (by kernel_rfl)) ?_
           try go_wp2
           go_ret
           exact ⟨zE_,by repeat (first|(with_reducible first|exact HB.out|apply za_|apply zn_|apply zd_|refine zs_ ?_ GE412.out|refine zs_ ?_ GE432.out)|exact HB.out)⟩
          ·rw [if_neg c60] at H
           have c60b0 : ((t445.length : Int) == 0) = false:=beq_eq_false_iff_ne.mpr c60
           have c60b1 : ((t445.length : Int) != 0) = true:=bne_iff_ne.mpr c60
           have c60b2 : ¬ (t445 = []):=fun h_ => c60 (by rw [h_];rfl)
           exact absurd H (by simp)
        ·replace c41:=Bool.eq_false_iff.mpr c41
         subst c41
         have H1 : (none) = some r:=by rw [if_neg (show ¬ (false = true) by decide)] at H;exact H
         clear H
         have H:=H1
         clear H1
         exact absurd H (by simp)
       ·replace c38:=Bool.eq_false_iff.mpr c38
        subst c38
        have H1 : (none) = some r:=by rw [if_neg (show ¬ (false = true) by decide)] at H;exact H
        clear H
        have H:=H1
        clear H1
        exact absurd H (by simp)
      ·rw [if_neg c34] at H
       have c34b0 : (t419 == t424) = false:=beq_eq_false_iff_ne.mpr c34
       have c34b1 : (t419 != t424) = true:=bne_iff_ne.mpr c34
       exact absurd H (by simp)
     ·rw [if_neg c33] at H
      have c33b0 : (t420 == t425) = false:=by simpa using c33
      (try (have c33b1 : decide (t420 = t425) = false:=by simpa using c33))
      (try (have c33b2 : (t420 == t425) = false:=by simpa using c33))
      (try (have c33b3 : ¬ (t420 = t425):=by simpa using c33))
      clear c33
      exact absurd H (by simp)

/-- THE ONE PURE STATEMENT of laws_FnExprFree: yours. -/
def laws_FnExprFree.Pure : Prop:=∀ (l0 : List Int),l0.length ≤ maxLen → l0.length * 1 ≤ 140737488351232 → (∀ x ∈ l0,(Lit.int .u8 x).wf = true) → ∃ k,laws_FnExprFree.f k l0 = some true
theorem laws_FnExprFree.walk (P : laws_FnExprFree.Pure) (a0 : Option Addr) (len0 cap0 : Nat) (z0 : List Int) (w : World) (w0 : (a0 = none ∧ len0 = 0 ∧ cap0 = 0 ∧ z0 = []) ∨ ∃ x,a0 = some x ∧ len0 ≤ cap0 ∧ cap0 ≤ maxLen ∧ z0.length = cap0 ∧ (∀ i,i < z0.length → w.cell? (x.add i) = some (.int .u8 (z0.getD i 0))) ∧ ∀ n ∈ z0,(Lit.int .u8 n).wf = true) (y0 : len0 * 1 ≤ 140737488351232) :
  Calls Try.prog 8 #[.slice a0 len0 cap0] w fun e w' => e = .returned (.bool true) ∧ Below w.heap.size w w':=by
 obtain ⟨l0,rfl,hr0,hm0,hw0,hc0⟩:=ReadsInt.ofRowC w0
 obtain ⟨k,h⟩:=P l0 hm0 y0 hw0
 refine (laws_FnExprFree.calls k _ _ l0 true w (Kd.C_of_reads (d:=(0 : Int)) (h1:=fun _ => rfl) hr0) hc0 h).mono ?_
 rintro e w' ⟨rfl,hd⟩
 exact ⟨rfl,hd⟩

end Go.Proofs.Ytnmhggdaccbbfaa.MFnExprFree
