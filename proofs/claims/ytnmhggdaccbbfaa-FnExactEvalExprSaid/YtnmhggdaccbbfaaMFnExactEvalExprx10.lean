import Derived.Test.YtnmhggdaccbbfaaMFnExactEvalExprx0
import Derived.Test.YtnmhggdaccbbfaaMFnExactEvalExprx3
import Derived.Test.YtnmhggdaccbbfaaMFnExactEvalExprx6
import Derived.Test.YtnmhggdaccbbfaaMFnExactEvalExprx7
import Derived.Test.YtnmhggdaccbbfaaMFnExactEvalExprx8
import Derived.Test.YtnmhggdaccbbfaaMFnExactEvalExprx9
namespace Go.Proofs.Ytnmhggdaccbbfaa.MFnExactEvalExpr
open Go.RowKit Go.Proofs.YtnmhggdaccbbfaaW.PrintWords Go.Proofs.YtnmhggdaccbbfaaW.PrintLast Go.Proofs.YtnmhggdaccbbfaaW.PrintMore
attribute [local go_sem] max2_int min2_int max_two min_two max_three min_three max_four min_four
set_option linter.unusedVariables false
set_option linter.unusedSimpArgs false

def laws_FnExactEvalExpr.j0 : Nat → List (S98) → List (S87) → Bool → List (S126) → List (S34) → Option (Bool)
 |0,_,_,_,_,_ => none
 |k + 1,x1,x11,x51,x291000,x305000 => if x51 = true then (some false) else ((laws_toExpr.f k x291000).bind fun t310 => ((laws_eqExpr.f k x305000 t310).bind fun t313 => (if t313 = true then ((laws_toVarS.f k x1).bind fun t314 => ((laws_eqVarS.f k x11 t314).bind fun t317 => (if t317 = true then (some true) else (some false)))) else (some false))))
def laws_FnExactEvalExpr.f (k : Nat) (l0_0 : List (S126)) (l1 : List (S98)) (a2 : Int) : Option (Bool):=(laws_szExpr.f k l0_0 1048576).bind fun t291 => (if t291 < 0 then (some true) else ((laws_szVarS.f k l1 t291).bind fun t292 => (if t292 < 0 then (some true) else ((laws_toExpr.f k l0_0).bind fun t293 => ((laws_toVarS.f k l1).bind fun t296 => ((spec_EvalExpr.f k t293 t296 a2).bind fun bt299 => ((laws_toExpr.f k l0_0).bind fun t301 => ((laws_toVarS.f k l1).bind fun t305 => ((impl_EvalExpr.f k t301 t305 a2).bind fun bt308 => (if bt308.1 = bt299.1 then (laws_FnExactEvalExpr.j0 k l1 t305 (bt308.2 != bt299.2) l0_0 t301) else (laws_FnExactEvalExpr.j0 k l1 t305 true l0_0 t301)))))))))))
theorem laws_FnExactEvalExpr.mono_l : ∀ k,(∀ y0 y1 y2 y3 y4,LeO (laws_FnExactEvalExpr.j0 k y0 y1 y2 y3 y4) (laws_FnExactEvalExpr.j0 (k + 1) y0 y1 y2 y3 y4))
 |0 => fun _ _ _ _ _ r h => by simp [laws_FnExactEvalExpr.j0] at h
 |k + 1 => by
  have ih0:=laws_FnExactEvalExpr.mono_l k
  ·intro y0 y1 y2 y3 y4
   unfold laws_FnExactEvalExpr.j0
   repeat' first
   |(with_reducible exact ih0 _ _ _ _ _)
   |(with_reducible exact impl_EvalExpr.mono _ _ _ _)
   |(with_reducible exact laws_eqExpr.mono _ _ _)
   |(with_reducible exact laws_eqVarS.mono _ _ _)
   |(with_reducible exact laws_szExpr.mono _ _ _)
   |(with_reducible exact laws_szVarS.mono _ _ _)
   |(with_reducible exact laws_toExpr.mono _ _)
   |(with_reducible exact laws_toVarS.mono _ _)
   |(with_reducible exact spec_EvalExpr.mono _ _ _ _)
   |(with_reducible exact LeO.refl _)
   |(with_reducible exact LeO.none _)
   |(with_reducible refine LeO.ite ?_ ?_)
   |(with_reducible refine LeO.bind ?_ (fun _ => ?_))
theorem laws_FnExactEvalExpr.mono : ∀ a0 a1 a2 k,LeO (laws_FnExactEvalExpr.f k a0 a1 a2) (laws_FnExactEvalExpr.f (k + 1) a0 a1 a2):=by
 intro a0 a1 a2 k
 have ih0:=laws_FnExactEvalExpr.mono_l k
 unfold laws_FnExactEvalExpr.f
 repeat' first
   |(with_reducible exact ih0 _ _ _ _ _)
   |(with_reducible exact impl_EvalExpr.mono _ _ _ _)
   |(with_reducible exact laws_eqExpr.mono _ _ _)
   |(with_reducible exact laws_eqVarS.mono _ _ _)
   |(with_reducible exact laws_szExpr.mono _ _ _)
   |(with_reducible exact laws_szVarS.mono _ _ _)
   |(with_reducible exact laws_toExpr.mono _ _)
   |(with_reducible exact laws_toVarS.mono _ _)
   |(with_reducible exact spec_EvalExpr.mono _ _ _ _)
   |(with_reducible exact LeO.refl _)
   |(with_reducible exact LeO.none _)
   |(with_reducible refine LeO.ite ?_ ?_)
   |(with_reducible refine LeO.bind ?_ (fun _ => ?_))
set_option maxHeartbeats 8000000 in
set_option maxRecDepth 100000 in
theorem laws_FnExactEvalExpr.calls (k : Nat) (A0_0 : Option Addr) (c0_0 : Nat) (l0_0 : List (S126)) (A1 : Option Addr) (c1 : Nat) (l1 : List (S98)) (a2 : Int) (r : Bool) (w : World) (hr0_0 : Kd.C k126 w A0_0 l0_0.length l0_0) (hc0_0 : l0_0.length ≤ c0_0) (hr1 : Kd.C k98 w A1 l1.length l1) (hc1 : l1.length ≤ c1) (h : laws_FnExactEvalExpr.f k l0_0 l1 a2 = some r) :
  Calls Try.prog 6 #[.agg #[.slice A0_0 l0_0.length c0_0],.slice A1 l1.length c1,.int .i64 a2] w fun e w' => e = .returned (.bool r) ∧ Below w.heap.size w w':=by
 have hu52:=Try.underlying52
 have hu28:=Try.underlying28
 have HR0_0:=zm_ hr0_0
 have HC0_0:=zm_ hc0_0
 clear hr0_0 hc0_0
 have HR1:=zm_ hr1
 have HC1:=zm_ hc1
 clear hr1 hc1
 have HB:=zm_ (Below.refl w.heap.size w)
 have H : ((laws_szExpr.f k l0_0 1048576).bind fun t291 => (if t291 < 0 then (some true) else ((laws_szVarS.f k l1 t291).bind fun t292 => (if t292 < 0 then (some true) else ((laws_toExpr.f k l0_0).bind fun t293 => ((laws_toVarS.f k l1).bind fun t296 => ((spec_EvalExpr.f k t293 t296 a2).bind fun bt299 => ((laws_toExpr.f k l0_0).bind fun t301 => ((laws_toVarS.f k l1).bind fun t305 => ((impl_EvalExpr.f k t301 t305 a2).bind fun bt308 => (if bt308.1 = bt299.1 then (laws_FnExactEvalExpr.j0 k l1 t305 (bt308.2 != bt299.2) l0_0 t301) else (laws_FnExactEvalExpr.j0 k l1 t305 true l0_0 t301)))))))))))) = some r:=h
 clear h
 replace H:=Option.bind_eq_some_iff.mp H
 obtain ⟨t291,A40,H⟩:=H
 replace H : (if t291 < 0 then (some true) else ((laws_szVarS.f k l1 t291).bind fun t292 => (if t292 < 0 then (some true) else ((laws_toExpr.f k l0_0).bind fun t293 => ((laws_toVarS.f k l1).bind fun t296 => ((spec_EvalExpr.f k t293 t296 a2).bind fun bt299 => ((laws_toExpr.f k l0_0).bind fun t301 => ((laws_toVarS.f k l1).bind fun t305 => ((impl_EvalExpr.f k t301 t305 a2).bind fun bt308 => (if bt308.1 = bt299.1 then (laws_FnExactEvalExpr.j0 k l1 t305 (bt308.2 != bt299.2) l0_0 t301) else (laws_FnExactEvalExpr.j0 k l1 t305 true l0_0 t301))))))))))) = some r:=H
 have A4:=zm_ A40
 clear A40
 by_cases c5 : t291 < 0
 ·rw [if_pos c5] at H
  have c5b0 : decide (t291 < 0) = true:=decide_eq_true c5
  clear c5
  obtain rfl:=Option.some.inj H
  go_enter Try.func6,Try.ntmps6
  go_wp2_with (first|((with_reducible refine gate_dst (N:=3) rfl ?_);refine box_event ?hg (N:=3) ?hd (cs:=#[.slice A0_0 l0_0.length c0_0]) (t:=52) ?hr ?_;(case hd => rfl);(case hg => rfl);(case hr => first|(go_simp;done)|(go_simp;rfl));intro gb290 hg w6 hbox hb;have n0_:=zm_ (below_step (by repeat (first|(with_reducible first|exact HB.out|apply za_|apply zn_|apply zd_)|exact HB.out)) hb);have n1_:=zm_ (hbox);have n2_:=zm_ ((by rw [hg];exact (below_size (by repeat (first|(with_reducible first|exact HB.out|apply za_|apply zn_|apply zd_)|exact HB.out))) : w.heap.size ≤ gb290));have n3_:=zm_ ((by rw [hg];exact (below_size (by repeat (first|(with_reducible first|exact HB.out|apply za_|apply zn_|apply zd_)|exact HB.out))) : w.heap.size ≤ gb290));clear HB;have HB:=n0_;have BK290:=n1_;have GW290:=n2_;have GE290:=n3_;clear n0_ n1_ n2_ n3_;clear hb hbox hg;have hcz7_0 : w6.cell? ⟨gb290,0,none⟩ = some (.slice A0_0 l0_0.length c0_0):=(zc_ BK290.out 0).trans rfl;have hfz7_0:=zf_ BK290.out 0)|((with_reducible refine gate_callee (f:=25) rfl ?_);refine goesL_ (some 16) rfl rfl Try.func25 (by kernel_rfl) rfl #[.agg #[.slice A0_0 l0_0.length c0_0],.int .i64 1048576] rfl (by (try simp only [List.map_toArray,List.map_cons,List.map_nil]);first|done|rfl|(simp only [List.length_drop,List.length_take];rfl)) ?_;(with_reducible refine (laws_szExpr.calls k _ _ l0_0 1048576 t291 _ ?side1 ?side2 A4.out).mono ?_);(case side1 => repeat (first|exact (Kd.C_below HR0_0.out HB.out)|(with_reducible refine Kd.C_alloc ?_ _)|(with_reducible refine Kd.C_drewN ?_ _)|(with_reducible refine Kd.C_drew ?_)));(case side2 => exact HC0_0.out);rintro e w8 ⟨rfl,hb⟩;refine ⟨_,rfl,?_⟩;have n0_:=zm_ (blk_below (g:=gb290) (o:=.cells #[.slice A0_0 l0_0.length c0_0] 52 (0,0)) (by (with_reducible repeat first|refine zl_ ?_ _|refine zr_ ?_|refine zk_ ?_ _);exact BK290.out) hb);have n1_:=zm_ (below_step (by repeat (first|(with_reducible first|exact HB.out|apply za_|apply zn_|apply zd_|refine zs_ ?_ GE290.out)|exact HB.out)) hb);clear BK290;clear HB;have BK290:=n0_;have HB:=n1_;clear n0_ n1_;(try clear hb);(try clear hb2);(try clear hk);(try clear hi)))
  go_ret
  exact ⟨by first|rfl|(simp [errW_none,errW_some] <;> rfl)|(simp [*,errW_none,errW_some] <;> rfl),by repeat (first|(with_reducible first|exact HB.out|apply za_|apply zn_|apply zd_|refine zs_ ?_ GE290.out)|exact HB.out)⟩
 ·rw [if_neg c5] at H
  have c5b0 : decide (t291 < 0) = false:=decide_eq_false c5
  clear c5
  replace H:=Option.bind_eq_some_iff.mp H
  obtain ⟨t292,A90,H⟩:=H
  replace H : (if t292 < 0 then (some true) else ((laws_toExpr.f k l0_0).bind fun t293 => ((laws_toVarS.f k l1).bind fun t296 => ((spec_EvalExpr.f k t293 t296 a2).bind fun bt299 => ((laws_toExpr.f k l0_0).bind fun t301 => ((laws_toVarS.f k l1).bind fun t305 => ((impl_EvalExpr.f k t301 t305 a2).bind fun bt308 => (if bt308.1 = bt299.1 then (laws_FnExactEvalExpr.j0 k l1 t305 (bt308.2 != bt299.2) l0_0 t301) else (laws_FnExactEvalExpr.j0 k l1 t305 true l0_0 t301))))))))) = some r:=H
  have A9:=zm_ A90
  clear A90
  by_cases c10 : t292 < 0
  ·rw [if_pos c10] at H
   have c10b0 : decide (t292 < 0) = true:=decide_eq_true c10
   clear c10
   obtain rfl:=Option.some.inj H
   go_enter Try.func6,Try.ntmps6
   go_wp2_with (first|((with_reducible refine gate_dst (N:=3) rfl ?_);refine box_event ?hg (N:=3) ?hd (cs:=#[.slice A0_0 l0_0.length c0_0]) (t:=52) ?hr ?_;(case hd => rfl);(case hg => rfl);(case hr => first|(go_simp;done)|(go_simp;rfl));intro gb290 hg w11 hbox hb;have n0_:=zm_ (below_step (by repeat (first|(with_reducible first|exact HB.out|apply za_|apply zn_|apply zd_)|exact HB.out)) hb);have n1_:=zm_ (hbox);have n2_:=zm_ ((by rw [hg];exact (below_size (by repeat (first|(with_reducible first|exact HB.out|apply za_|apply zn_|apply zd_)|exact HB.out))) : w.heap.size ≤ gb290));have n3_:=zm_ ((by rw [hg];exact (below_size (by repeat (first|(with_reducible first|exact HB.out|apply za_|apply zn_|apply zd_)|exact HB.out))) : w.heap.size ≤ gb290));clear HB;have HB:=n0_;have BK290:=n1_;have GW290:=n2_;have GE290:=n3_;clear n0_ n1_ n2_ n3_;clear hb hbox hg;have hcz12_0 : w11.cell? ⟨gb290,0,none⟩ = some (.slice A0_0 l0_0.length c0_0):=(zc_ BK290.out 0).trans rfl;have hfz12_0:=zf_ BK290.out 0)|((with_reducible refine gate_callee (f:=25) rfl ?_);refine goesL_ (some 16) rfl rfl Try.func25 (by kernel_rfl) rfl #[.agg #[.slice A0_0 l0_0.length c0_0],.int .i64 1048576] rfl (by (try simp only [List.map_toArray,List.map_cons,List.map_nil]);first|done|rfl|(simp only [List.length_drop,List.length_take];rfl)) ?_;(with_reducible refine (laws_szExpr.calls k _ _ l0_0 1048576 t291 _ ?side1 ?side2 A4.out).mono ?_);(case side1 => repeat (first|exact (Kd.C_below HR0_0.out HB.out)|(with_reducible refine Kd.C_alloc ?_ _)|(with_reducible refine Kd.C_drewN ?_ _)|(with_reducible refine Kd.C_drew ?_)));(case side2 => exact HC0_0.out);rintro e w13 ⟨rfl,hb⟩;refine ⟨_,rfl,?_⟩;have n0_:=zm_ (blk_below (g:=gb290) (o:=.cells #[.slice A0_0 l0_0.length c0_0] 52 (0,0)) (by (with_reducible repeat first|refine zl_ ?_ _|refine zr_ ?_|refine zk_ ?_ _);exact BK290.out) hb);have n1_:=zm_ (below_step (by repeat (first|(with_reducible first|exact HB.out|apply za_|apply zn_|apply zd_|refine zs_ ?_ GE290.out)|exact HB.out)) hb);clear BK290;clear HB;have BK290:=n0_;have HB:=n1_;clear n0_ n1_;(try clear hb);(try clear hb2);(try clear hk);(try clear hi))|((with_reducible refine gate_callee (f:=26) rfl ?_);refine goesL_ (some 21) rfl rfl Try.func26 (by kernel_rfl) rfl #[.slice A1 l1.length c1,.int .i64 t291] rfl (by (try simp only [List.map_toArray,List.map_cons,List.map_nil]);first|done|rfl|(simp only [List.length_drop,List.length_take];rfl)) ?_;(with_reducible refine (laws_szVarS.calls k _ _ l1 t291 t292 _ ?side1 ?side2 A9.out).mono ?_);(case side1 => repeat (first|exact (Kd.C_below HR1.out HB.out)|(with_reducible refine Kd.C_alloc ?_ _)|(with_reducible refine Kd.C_drewN ?_ _)|(with_reducible refine Kd.C_drew ?_)));(case side2 => exact HC1.out);rintro e w14 ⟨rfl,hb⟩;refine ⟨_,rfl,?_⟩;have n0_:=zm_ (blk_below (g:=gb290) (o:=.cells #[.slice A0_0 l0_0.length c0_0] 52 (0,0)) (by (with_reducible repeat first|refine zl_ ?_ _|refine zr_ ?_|refine zk_ ?_ _);exact BK290.out) hb);have n1_:=zm_ (below_step (by repeat (first|(with_reducible first|exact HB.out|apply za_|apply zn_|apply zd_|refine zs_ ?_ GE290.out)|exact HB.out)) hb);clear BK290;clear HB;have BK290:=n0_;have HB:=n1_;clear n0_ n1_;(try clear hb);(try clear hb2);(try clear hk);(try clear hi)))
   go_ret
   exact ⟨by first|rfl|(simp [errW_none,errW_some] <;> rfl)|(simp [*,errW_none,errW_some] <;> rfl),by repeat (first|(with_reducible first|exact HB.out|apply za_|apply zn_|apply zd_|refine zs_ ?_ GE290.out)|exact HB.out)⟩
  ·rw [if_neg c10] at H
   have c10b0 : decide (t292 < 0) = false:=decide_eq_false c10
   clear c10
   replace H:=Option.bind_eq_some_iff.mp H
   obtain ⟨t293,A150,H⟩:=H
   replace H : ((laws_toVarS.f k l1).bind fun t296 => ((spec_EvalExpr.f k t293 t296 a2).bind fun bt299 => ((laws_toExpr.f k l0_0).bind fun t301 => ((laws_toVarS.f k l1).bind fun t305 => ((impl_EvalExpr.f k t301 t305 a2).bind fun bt308 => (if bt308.1 = bt299.1 then (laws_FnExactEvalExpr.j0 k l1 t305 (bt308.2 != bt299.2) l0_0 t301) else (laws_FnExactEvalExpr.j0 k l1 t305 true l0_0 t301))))))) = some r:=H
   have A15:=zm_ A150
   clear A150
   replace H:=Option.bind_eq_some_iff.mp H
   obtain ⟨t296,A160,H⟩:=H
   replace H : ((spec_EvalExpr.f k t293 t296 a2).bind fun bt299 => ((laws_toExpr.f k l0_0).bind fun t301 => ((laws_toVarS.f k l1).bind fun t305 => ((impl_EvalExpr.f k t301 t305 a2).bind fun bt308 => (if bt308.1 = bt299.1 then (laws_FnExactEvalExpr.j0 k l1 t305 (bt308.2 != bt299.2) l0_0 t301) else (laws_FnExactEvalExpr.j0 k l1 t305 true l0_0 t301)))))) = some r:=H
   have A16:=zm_ A160
   clear A160
   replace H:=Option.bind_eq_some_iff.mp H
   obtain ⟨⟨t299,t300⟩,A170,H⟩:=H
   replace H : ((laws_toExpr.f k l0_0).bind fun t301 => ((laws_toVarS.f k l1).bind fun t305 => ((impl_EvalExpr.f k t301 t305 a2).bind fun bt308 => (if bt308.1 = t299 then (laws_FnExactEvalExpr.j0 k l1 t305 (bt308.2 != t300) l0_0 t301) else (laws_FnExactEvalExpr.j0 k l1 t305 true l0_0 t301))))) = some r:=H
   have A17:=zm_ A170
   clear A170
   replace H:=Option.bind_eq_some_iff.mp H
   obtain ⟨t301,A180,H⟩:=H
   replace H : ((laws_toVarS.f k l1).bind fun t305 => ((impl_EvalExpr.f k t301 t305 a2).bind fun bt308 => (if bt308.1 = t299 then (laws_FnExactEvalExpr.j0 k l1 t305 (bt308.2 != t300) l0_0 t301) else (laws_FnExactEvalExpr.j0 k l1 t305 true l0_0 t301)))) = some r:=H
   have A18:=zm_ A180
   clear A180
   replace H:=Option.bind_eq_some_iff.mp H
   obtain ⟨t305,A190,H⟩:=H
   replace H : ((impl_EvalExpr.f k t301 t305 a2).bind fun bt308 => (if bt308.1 = t299 then (laws_FnExactEvalExpr.j0 k l1 t305 (bt308.2 != t300) l0_0 t301) else (laws_FnExactEvalExpr.j0 k l1 t305 true l0_0 t301))) = some r:=H
   have A19:=zm_ A190
   clear A190
   replace H:=Option.bind_eq_some_iff.mp H
   obtain ⟨⟨t308,t309⟩,A200,H⟩:=H
   replace H : (if t308 = t299 then (laws_FnExactEvalExpr.j0 k l1 t305 (t309 != t300) l0_0 t301) else (laws_FnExactEvalExpr.j0 k l1 t305 true l0_0 t301)) = some r:=H
   have A20:=zm_ A200
   clear A200
   have HC21:=zm_ H
   clear H
   go_enter Try.func6,Try.ntmps6
   go_upto_region 12 with (first|((with_reducible refine gate_dst (N:=3) rfl ?_);refine box_event ?hg (N:=3) ?hd (cs:=#[.slice A0_0 l0_0.length c0_0]) (t:=52) ?hr ?_;(case hd => rfl);(case hg => rfl);(case hr => first|(go_simp;done)|(go_simp;rfl));intro gb290 hg w22 hbox hb;have n0_:=zm_ (below_step (by repeat (first|(with_reducible first|exact HB.out|apply za_|apply zn_|apply zd_)|exact HB.out)) hb);have n1_:=zm_ (hbox);have n2_:=zm_ ((by rw [hg];exact (below_size (by repeat (first|(with_reducible first|exact HB.out|apply za_|apply zn_|apply zd_)|exact HB.out))) : w.heap.size ≤ gb290));have n3_:=zm_ ((by rw [hg];exact (below_size (by repeat (first|(with_reducible first|exact HB.out|apply za_|apply zn_|apply zd_)|exact HB.out))) : w.heap.size ≤ gb290));clear HB;have HB:=n0_;have BK290:=n1_;have GW290:=n2_;have GE290:=n3_;clear n0_ n1_ n2_ n3_;clear hb hbox hg;have hcz23_0 : w22.cell? ⟨gb290,0,none⟩ = some (.slice A0_0 l0_0.length c0_0):=(zc_ BK290.out 0).trans rfl;have hfz23_0:=zf_ BK290.out 0)|((with_reducible refine gate_callee (f:=25) rfl ?_);refine goesL_ (some 16) rfl rfl Try.func25 (by kernel_rfl) rfl #[.agg #[.slice A0_0 l0_0.length c0_0],.int .i64 1048576] rfl (by (try simp only [List.map_toArray,List.map_cons,List.map_nil]);first|done|rfl|(simp only [List.length_drop,List.length_take];rfl)) ?_;(with_reducible refine (laws_szExpr.calls k _ _ l0_0 1048576 t291 _ ?side1 ?side2 A4.out).mono ?_);(case side1 => repeat (first|exact (Kd.C_below HR0_0.out HB.out)|(with_reducible refine Kd.C_alloc ?_ _)|(with_reducible refine Kd.C_drewN ?_ _)|(with_reducible refine Kd.C_drew ?_)));(case side2 => exact HC0_0.out);rintro e w24 ⟨rfl,hb⟩;refine ⟨_,rfl,?_⟩;have n0_:=zm_ (blk_below (g:=gb290) (o:=.cells #[.slice A0_0 l0_0.length c0_0] 52 (0,0)) (by (with_reducible repeat first|refine zl_ ?_ _|refine zr_ ?_|refine zk_ ?_ _);exact BK290.out) hb);have n1_:=zm_ (below_step (by repeat (first|(with_reducible first|exact HB.out|apply za_|apply zn_|apply zd_|refine zs_ ?_ GE290.out)|exact HB.out)) hb);clear BK290;clear HB;have BK290:=n0_;have HB:=n1_;clear n0_ n1_;(try clear hb);(try clear hb2);(try clear hk);(try clear hi))|((with_reducible refine gate_callee (f:=26) rfl ?_);refine goesL_ (some 21) rfl rfl Try.func26 (by kernel_rfl) rfl #[.slice A1 l1.length c1,.int .i64 t291] rfl (by (try simp only [List.map_toArray,List.map_cons,List.map_nil]);first|done|rfl|(simp only [List.length_drop,List.length_take];rfl)) ?_;(with_reducible refine (laws_szVarS.calls k _ _ l1 t291 t292 _ ?side1 ?side2 A9.out).mono ?_);(case side1 => repeat (first|exact (Kd.C_below HR1.out HB.out)|(with_reducible refine Kd.C_alloc ?_ _)|(with_reducible refine Kd.C_drewN ?_ _)|(with_reducible refine Kd.C_drew ?_)));(case side2 => exact HC1.out);rintro e w25 ⟨rfl,hb⟩;refine ⟨_,rfl,?_⟩;have n0_:=zm_ (blk_below (g:=gb290) (o:=.cells #[.slice A0_0 l0_0.length c0_0] 52 (0,0)) (by (with_reducible repeat first|refine zl_ ?_ _|refine zr_ ?_|refine zk_ ?_ _);exact BK290.out) hb);have n1_:=zm_ (below_step (by repeat (first|(with_reducible first|exact HB.out|apply za_|apply zn_|apply zd_|refine zs_ ?_ GE290.out)|exact HB.out)) hb);clear BK290;clear HB;have BK290:=n0_;have HB:=n1_;clear n0_ n1_;(try clear hb);(try clear hb2);(try clear hk);(try clear hi);have hcz26_0 : w25.cell? ⟨gb290,0,none⟩ = some (.slice A0_0 l0_0.length c0_0):=(zc_ BK290.out 0).trans rfl;have hfz26_0:=zf_ BK290.out 0)|((with_reducible refine gate_callee (f:=27) rfl ?_);refine goesL_ (some 26) rfl rfl Try.func27 (by kernel_rfl) rfl #[.agg #[.slice A0_0 l0_0.length c0_0]] rfl (by (try simp only [List.map_toArray,List.map_cons,List.map_nil]);first|done|rfl|(simp only [List.length_drop,List.length_take];rfl)) ?_;(with_reducible refine (laws_toExpr.calls k _ _ l0_0 t293 _ ?side1 ?side2 A15.out).mono ?_);(case side1 => repeat (first|exact (Kd.C_below HR0_0.out HB.out)|(with_reducible refine Kd.C_alloc ?_ _)|(with_reducible refine Kd.C_drewN ?_ _)|(with_reducible refine Kd.C_drew ?_)));(case side2 => exact HC0_0.out);rintro e w27 ⟨v294,rfl,ho0,hb⟩;refine ⟨_,rfl,?_⟩;have n0_:=zm_ (Kd.S_lower ho0 (below_size (by repeat (first|(with_reducible first|exact HB.out|apply za_|apply zn_|apply zd_|refine zs_ ?_ GE290.out)|exact HB.out))));have n1_:=zm_ (blk_below (g:=gb290) (o:=.cells #[.slice A0_0 l0_0.length c0_0] 52 (0,0)) (by (with_reducible repeat first|refine zl_ ?_ _|refine zr_ ?_|refine zk_ ?_ _);exact BK290.out) hb);have n2_:=zm_ (below_step (by repeat (first|(with_reducible first|exact HB.out|apply za_|apply zn_|apply zd_|refine zs_ ?_ GE290.out)|exact HB.out)) hb);clear BK290;clear HB;have HO295:=n0_;have BK290:=n1_;have HB:=n2_;clear n0_ n1_ n2_;(try clear hb);(try clear hb2);(try clear hk);(try clear hi);(try clear ho0))|((with_reducible refine gate_callee (f:=28) rfl ?_);refine goesL_ (some 28) rfl rfl Try.func28 (by kernel_rfl) rfl #[.slice A1 l1.length c1] rfl (by (try simp only [List.map_toArray,List.map_cons,List.map_nil]);first|done|rfl|(simp only [List.length_drop,List.length_take];rfl)) ?_;(with_reducible refine (laws_toVarS.calls k _ _ l1 t296 _ ?side1 ?side2 A16.out).mono ?_);(case side1 => repeat (first|exact (Kd.C_below HR1.out HB.out)|(with_reducible refine Kd.C_alloc ?_ _)|(with_reducible refine Kd.C_drewN ?_ _)|(with_reducible refine Kd.C_drew ?_)));(case side2 => exact HC1.out);rintro e w28 ⟨v297,rfl,ho0,hb⟩;refine ⟨_,rfl,?_⟩;have n0_:=zm_ (Kd.S_below (by (with_reducible repeat (first|apply Kd.S_alloc|apply Kd.S_drewN|apply Kd.S_drew));exact HO295.out) hb);have n1_:=zm_ (Kd.R_lower ho0 (below_size (by repeat (first|(with_reducible first|exact HB.out|apply za_|apply zn_|apply zd_|refine zs_ ?_ GE290.out)|exact HB.out))));have n2_:=zm_ (blk_below (g:=gb290) (o:=.cells #[.slice A0_0 l0_0.length c0_0] 52 (0,0)) (by (with_reducible repeat first|refine zl_ ?_ _|refine zr_ ?_|refine zk_ ?_ _);exact BK290.out) hb);have n3_:=zm_ (below_step (by repeat (first|(with_reducible first|exact HB.out|apply za_|apply zn_|apply zd_|refine zs_ ?_ GE290.out)|exact HB.out)) hb);clear HO295;clear BK290;clear HB;have HO295:=n0_;have HO298:=n1_;have BK290:=n2_;have HB:=n3_;clear n0_ n1_ n2_ n3_;(try clear hb);(try clear hb2);(try clear hk);(try clear hi);(try clear ho0);obtain ⟨Ao29,co29,eo29⟩:=Kd.S_slice HO295.out;subst eo29;obtain ⟨Ao30,co30,eo30⟩:=Kd.R_slice HO298.out;subst eo30)|((with_reducible refine gate_callee (f:=18) rfl ?_);refine goesL_ (some 30) rfl rfl Try.func18 (by kernel_rfl) rfl #[.agg #[.slice Ao29 t293.length co29],.slice Ao30 t296.length co30,.int .i64 a2] rfl (by (try simp only [List.map_toArray,List.map_cons,List.map_nil]);first|done|rfl|(simp only [List.length_drop,List.length_take];rfl)) ?_;(with_reducible refine (spec_EvalExpr.calls k _ _ t293 _ _ t296 a2 t299 t300 _ ?side1 ?side2 ?side3 ?side4 A17.out).mono ?_);(case side1 => repeat (first|exact (Kd.S_reads' HO295.out).2.2|(with_reducible refine Kd.C_alloc ?_ _)|(with_reducible refine Kd.C_drewN ?_ _)|(with_reducible refine Kd.C_drew ?_)));(case side2 => exact (Kd.S_reads' HO295.out).2.1);(case side3 => repeat (first|exact (Kd.R_reads' HO298.out).2.2|(with_reducible refine Kd.C_alloc ?_ _)|(with_reducible refine Kd.C_drewN ?_ _)|(with_reducible refine Kd.C_drew ?_)));(case side4 => exact (Kd.R_reads' HO298.out).2.1);rintro e w31 ⟨rfl,hb⟩;refine ⟨_,rfl,?_⟩;have n0_:=zm_ (Kd.S_below (by (with_reducible repeat (first|apply Kd.S_alloc|apply Kd.S_drewN|apply Kd.S_drew));exact HO295.out) hb);have n1_:=zm_ (Kd.R_below (by (with_reducible repeat (first|apply Kd.R_alloc|apply Kd.R_drewN|apply Kd.R_drew));exact HO298.out) hb);have n2_:=zm_ (blk_below (g:=gb290) (o:=.cells #[.slice A0_0 l0_0.length c0_0] 52 (0,0)) (by (with_reducible repeat first|refine zl_ ?_ _|refine zr_ ?_|refine zk_ ?_ _);exact BK290.out) hb);have n3_:=zm_ (below_step (by repeat (first|(with_reducible first|exact HB.out|apply za_|apply zn_|apply zd_|refine zs_ ?_ GE290.out)|exact HB.out)) hb);clear HO295;clear HO298;clear BK290;clear HB;have HO295:=n0_;have HO298:=n1_;have BK290:=n2_;have HB:=n3_;clear n0_ n1_ n2_ n3_;(try clear hb);(try clear hb2);(try clear hk);(try clear hi);have hcz32_0 : w31.cell? ⟨gb290,0,none⟩ = some (.slice A0_0 l0_0.length c0_0):=(zc_ BK290.out 0).trans rfl;have hfz32_0:=zf_ BK290.out 0)|((with_reducible refine gate_callee (f:=27) rfl ?_);refine goesL_ (some 34) rfl rfl Try.func27 (by kernel_rfl) rfl #[.agg #[.slice A0_0 l0_0.length c0_0]] rfl (by (try simp only [List.map_toArray,List.map_cons,List.map_nil]);first|done|rfl|(simp only [List.length_drop,List.length_take];rfl)) ?_;(with_reducible refine (laws_toExpr.calls k _ _ l0_0 t301 _ ?side1 ?side2 A18.out).mono ?_);(case side1 => repeat (first|exact (Kd.C_below HR0_0.out HB.out)|(with_reducible refine Kd.C_alloc ?_ _)|(with_reducible refine Kd.C_drewN ?_ _)|(with_reducible refine Kd.C_drew ?_)));(case side2 => exact HC0_0.out);rintro e w33 ⟨v302,rfl,ho0,hb⟩;refine ⟨_,rfl,?_⟩;have n0_:=zm_ (Kd.S_elder' (by (with_reducible repeat (first|apply Kd.S_alloc|apply Kd.S_drewN|apply Kd.S_drew));exact HO295.out) (Kd.S_base ho0) hb);have n1_:=zm_ (Kd.R_below (by (with_reducible repeat (first|apply Kd.R_alloc|apply Kd.R_drewN|apply Kd.R_drew));exact HO298.out) hb);have n2_:=zm_ (Kd.S_lower (Kd.S_new' ho0 (Kd.S_lt (by (with_reducible repeat (first|apply Kd.S_alloc|apply Kd.S_drewN|apply Kd.S_drew));exact HO295.out))) (below_size (by repeat (first|(with_reducible first|exact HB.out|apply za_|apply zn_|apply zd_|refine zs_ ?_ GE290.out)|exact HB.out))));have n3_:=zm_ (blk_below (g:=gb290) (o:=.cells #[.slice A0_0 l0_0.length c0_0] 52 (0,0)) (by (with_reducible repeat first|refine zl_ ?_ _|refine zr_ ?_|refine zk_ ?_ _);exact BK290.out) hb);have n4_:=zm_ (below_step (by repeat (first|(with_reducible first|exact HB.out|apply za_|apply zn_|apply zd_|refine zs_ ?_ GE290.out)|exact HB.out)) hb);clear HO295;clear HO298;clear BK290;clear HB;have HO295:=n0_;have HO298:=n1_;have HO303:=n2_;have BK290:=n3_;have HB:=n4_;clear n0_ n1_ n2_ n3_ n4_;(try clear hb);(try clear hb2);(try clear hk);(try clear hi);(try clear ho0))|((with_reducible refine gate_dst (N:=10) rfl ?_);refine box_event ?hg (N:=10) ?hd (cs:=#[.slice none 0 0]) (t:=28) ?hr ?_;(case hd => rfl);(case hg => rfl);(case hr => first|(go_simp;done)|(go_simp;rfl));intro gb304 hg w34 hbox hb;have n0_:=zm_ (Kd.S_below (by (with_reducible repeat (first|apply Kd.S_alloc|apply Kd.S_drewN|apply Kd.S_drew));exact HO295.out) hb);have n1_:=zm_ (Kd.R_below (by (with_reducible repeat (first|apply Kd.R_alloc|apply Kd.R_drewN|apply Kd.R_drew));exact HO298.out) hb);have n2_:=zm_ (Kd.S_below (by (with_reducible repeat (first|apply Kd.S_alloc|apply Kd.S_drewN|apply Kd.S_drew));exact HO303.out) hb);have n3_:=zm_ (blk_below (g:=gb290) (o:=.cells #[.slice A0_0 l0_0.length c0_0] 52 (0,0)) (by (with_reducible repeat first|refine zl_ ?_ _|refine zr_ ?_|refine zk_ ?_ _);exact BK290.out) hb);have n4_:=zm_ (below_step (by repeat (first|(with_reducible first|exact HB.out|apply za_|apply zn_|apply zd_|refine zs_ ?_ GE290.out)|exact HB.out)) hb);have n5_:=zm_ (hbox);have n6_:=zm_ ((by rw [hg];exact (below_size (by repeat (first|(with_reducible first|exact HB.out|apply za_|apply zn_|apply zd_|refine zs_ ?_ GE290.out)|exact HB.out))) : w.heap.size ≤ gb304));have n7_:=zm_ ((by rw [hg];exact (below_size (by repeat (first|(with_reducible first|exact HB.out|apply za_|apply zn_|apply zd_|refine zs_ ?_ GE290.out)|exact HB.out))) : w.heap.size ≤ gb304));have n8_:=zm_ ((by rw [hg];exact Nat.ne_of_lt (blk_lt (g:=gb290) (o:=.cells #[.slice A0_0 l0_0.length c0_0] 52 (0,0)) (by (with_reducible repeat first|refine zl_ ?_ _|refine zr_ ?_|refine zk_ ?_ _);exact BK290.out)) : gb290 ≠ gb304));have n9_:=zm_ ((by rw [hg];exact Nat.ne_of_gt (blk_lt (g:=gb290) (o:=.cells #[.slice A0_0 l0_0.length c0_0] 52 (0,0)) (by (with_reducible repeat first|refine zl_ ?_ _|refine zr_ ?_|refine zk_ ?_ _);exact BK290.out)) : gb304 ≠ gb290));clear HO295;clear HO298;clear HO303;clear BK290;clear HB;have HO295:=n0_;have HO298:=n1_;have HO303:=n2_;have BK290:=n3_;have HB:=n4_;have BK304:=n5_;have GW304:=n6_;have GE304:=n7_;have NB290_304:=n8_;have NB304_290:=n9_;clear n0_ n1_ n2_ n3_ n4_ n5_ n6_ n7_ n8_ n9_;clear hb hbox hg;obtain ⟨Ao35,co35,eo35⟩:=Kd.S_slice HO303.out;subst eo35;have hnb36:=NB304_290.out;have hnc36:=NB290_304.out;have hcz37_0 : w34.cell? ⟨gb304,0,none⟩ = some (.slice none 0 0):=(zc_ BK304.out 0).trans rfl;have hfz37_0:=zf_ BK304.out 0)|((with_reducible refine gate_callee (f:=28) rfl ?_);refine goesL_ (some 36) rfl rfl Try.func28 (by kernel_rfl) rfl #[.slice A1 l1.length c1] rfl (by (try simp only [List.map_toArray,List.map_cons,List.map_nil]);first|done|rfl|(simp only [List.length_drop,List.length_take];rfl)) ?_;(with_reducible refine (laws_toVarS.calls k _ _ l1 t305 _ ?side1 ?side2 A19.out).mono ?_);(case side1 => exact Kd.C_below HR1.out (by repeat (first|(with_reducible first|exact HB.out|apply za_|apply zn_|apply zd_|refine zs_ ?_ GE290.out|refine zs_ ?_ GE304.out)|exact HB.out)));(case side2 => exact HC1.out);rintro e w38 ⟨v306,rfl,ho0,hb⟩;refine ⟨_,rfl,?_⟩;have n0_:=zm_ (Kd.S_below (by (with_reducible repeat (first|apply Kd.S_alloc|apply Kd.S_drewN|apply Kd.S_drew));exact (Kd.S_mono (Kd.S_far (p:=⟨gb304,0,none⟩) (Kd.S_types HO295.out BK304.out (by decide)) (fun _ hk => hk.2) (.slice Ao35 t301.length co35)) (fun _ h_ => h_.1))) hb);have n1_:=zm_ (Kd.R_elder' (by (with_reducible repeat (first|apply Kd.R_alloc|apply Kd.R_drewN|apply Kd.R_drew));exact (Kd.R_mono (Kd.R_far (p:=⟨gb304,0,none⟩) (Kd.R_types HO298.out BK304.out (by decide)) (fun _ hk => hk.2) (.slice Ao35 t301.length co35)) (fun _ h_ => h_.1))) (Kd.R_base ho0) hb);have n2_:=zm_ (Kd.S_below (by (with_reducible repeat (first|apply Kd.S_alloc|apply Kd.S_drewN|apply Kd.S_drew));exact (Kd.S_mono (Kd.S_far (p:=⟨gb304,0,none⟩) (Kd.S_types HO303.out BK304.out (by decide)) (fun _ hk => hk.2) (.slice Ao35 t301.length co35)) (fun _ h_ => h_.1))) hb);have n3_:=zm_ (Kd.R_lower (Kd.R_new' ho0 (Kd.R_lt (by (with_reducible repeat (first|apply Kd.R_alloc|apply Kd.R_drewN|apply Kd.R_drew));exact (Kd.R_mono (Kd.R_far (p:=⟨gb304,0,none⟩) (Kd.R_types HO298.out BK304.out (by decide)) (fun _ hk => hk.2) (.slice Ao35 t301.length co35)) (fun _ h_ => h_.1))))) (below_size (by repeat (first|(with_reducible first|exact HB.out|apply za_|apply zn_|apply zd_|refine zs_ ?_ GE290.out|refine zs_ ?_ GE304.out)|exact HB.out))));have n4_:=zm_ (blk_below (g:=gb290) (o:=.cells #[.slice A0_0 l0_0.length c0_0] 52 (0,0)) (by (with_reducible repeat first|refine zl_ ?_ _|refine zr_ ?_|refine zk_ ?_ _);refine blk_far ?_ NB290_304.out _;(with_reducible repeat first|refine zl_ ?_ _|refine zr_ ?_|refine zk_ ?_ _);exact BK290.out) hb);have n5_:=zm_ (blk_below (g:=gb304) (o:=.cells #[.slice Ao35 t301.length co35] 28 (0,0)) (by (with_reducible repeat first|refine zl_ ?_ _|refine zr_ ?_|refine zk_ ?_ _);refine blk_put (cs:=#[.slice none 0 0]) ?_ 0 _ rfl;(with_reducible repeat first|refine zl_ ?_ _|refine zr_ ?_|refine zk_ ?_ _);exact BK304.out) hb);have n6_:=zm_ (below_step (by repeat (first|(with_reducible first|exact HB.out|apply za_|apply zn_|apply zd_|refine zs_ ?_ GE290.out|refine zs_ ?_ GE304.out)|exact HB.out)) hb);clear HO295;clear HO298;clear HO303;clear BK290;clear BK304;clear HB;have HO295:=n0_;have HO298:=n1_;have HO303:=n2_;have HO307:=n3_;have BK290:=n4_;have BK304:=n5_;have HB:=n6_;clear n0_ n1_ n2_ n3_ n4_ n5_ n6_;(try clear hb);(try clear hb2);(try clear hk);(try clear hi);(try clear ho0);have hcz39_0 : w38.cell? ⟨gb304,0,none⟩ = some (.slice Ao35 t301.length co35):=(zc_ BK304.out 0).trans rfl;have hfz39_0:=zf_ BK304.out 0;obtain ⟨Ao40,co40,eo40⟩:=Kd.R_slice HO307.out;subst eo40)|((with_reducible refine gate_callee (f:=12) rfl ?_);refine goesL_ (some 41) rfl rfl Try.func12 (by kernel_rfl) rfl #[.agg #[.slice Ao35 t301.length co35],.slice Ao40 t305.length co40,.int .i64 a2] rfl (by (try simp only [List.map_toArray,List.map_cons,List.map_nil]);first|done|rfl|(simp only [List.length_drop,List.length_take];rfl)) ?_;(with_reducible refine (impl_EvalExpr.calls k _ _ t301 _ _ t305 a2 t308 t309 _ ?side1 ?side2 ?side3 ?side4 A20.out).mono ?_);(case side1 => repeat (first|exact (Kd.S_reads' HO303.out).2.2|(with_reducible refine Kd.C_alloc ?_ _)|(with_reducible refine Kd.C_drewN ?_ _)|(with_reducible refine Kd.C_drew ?_)));(case side2 => exact (Kd.S_reads' HO303.out).2.1);(case side3 => repeat (first|exact (Kd.R_reads' HO307.out).2.2|(with_reducible refine Kd.C_alloc ?_ _)|(with_reducible refine Kd.C_drewN ?_ _)|(with_reducible refine Kd.C_drew ?_)));(case side4 => exact (Kd.R_reads' HO307.out).2.1);rintro e w41 ⟨rfl,hb⟩;refine ⟨_,rfl,?_⟩;have n0_:=zm_ (Kd.S_below (by (with_reducible repeat (first|apply Kd.S_alloc|apply Kd.S_drewN|apply Kd.S_drew));exact HO295.out) hb);have n1_:=zm_ (Kd.R_below (by (with_reducible repeat (first|apply Kd.R_alloc|apply Kd.R_drewN|apply Kd.R_drew));exact HO298.out) hb);have n2_:=zm_ (Kd.S_below (by (with_reducible repeat (first|apply Kd.S_alloc|apply Kd.S_drewN|apply Kd.S_drew));exact HO303.out) hb);have n3_:=zm_ (Kd.R_below (by (with_reducible repeat (first|apply Kd.R_alloc|apply Kd.R_drewN|apply Kd.R_drew));exact HO307.out) hb);have n4_:=zm_ (blk_below (g:=gb290) (o:=.cells #[.slice A0_0 l0_0.length c0_0] 52 (0,0)) (by (with_reducible repeat first|refine zl_ ?_ _|refine zr_ ?_|refine zk_ ?_ _);exact BK290.out) hb);have n5_:=zm_ (blk_below (g:=gb304) (o:=.cells #[.slice Ao35 t301.length co35] 28 (0,0)) (by (with_reducible repeat first|refine zl_ ?_ _|refine zr_ ?_|refine zk_ ?_ _);exact BK304.out) hb);have n6_:=zm_ (below_step (by repeat (first|(with_reducible first|exact HB.out|apply za_|apply zn_|apply zd_|refine zs_ ?_ GE290.out|refine zs_ ?_ GE304.out)|exact HB.out)) hb);clear HO295;clear HO298;clear HO303;clear HO307;clear BK290;clear BK304;clear HB;have HO295:=n0_;have HO298:=n1_;have HO303:=n2_;have HO307:=n3_;have BK290:=n4_;have BK304:=n5_;have HB:=n6_;clear n0_ n1_ n2_ n3_ n4_ n5_ n6_;(try clear hb);(try clear hb2);(try clear hk);(try clear hi)))
   (try simp only [Act.put,List.setIfInBounds_toArray,List.set_cons_zero,List.set_cons_succ])
   go_cut [51] (fun v51 wc => ∃ (kq : Nat) (x51_20 : Bool),v51 = .bool x51_20 ∧ Aside0 (laws_FnExactEvalExpr.j0 kq l1 t305 x51_20 l0_0 t301 = some r) ∧ Aside0 (kq ≤ k) ∧ Aside0 (Kd.R k87 87 wc w.heap.size (fun _ => True) (.slice Ao40 t305.length co40) t305) ∧ Aside0 (Kd.S k34 34 wc w.heap.size (fun _ => True) (.slice Ao35 t301.length co35) t301) ∧ Aside0 (wc.heap[gb290]? = some (.cells #[(.slice A0_0 l0_0.length c0_0)] 52 (0,0))) ∧ Aside0 (wc.heap[gb304]? = some (.cells #[(.slice Ao35 t301.length co35)] 28 (0,0))) ∧ Aside0 (Below w.heap.size w wc))
   case first =>
    have H:=HC21.out
    clear HC21
    by_cases c42 : t308 = t299
    ·rw [if_pos c42] at H
     have c42b0 : (t308 == t299) = true:=beq_iff_eq.mpr c42
     have c42b1 : (t308 != t299) = false:=bne_eq_false_iff_eq.mpr c42
     clear c42
     (first|rw [c42b0]|(simp only [i64_w,i32_w];rw [c42b0])|skip)
     have H':=zm_ H
     clear H
     go_wp2
     go_meet
     case rel => exact ⟨_,((t309 != t300)),(by first|rfl|(exact congrArg Value.bool (isEmpty_ne _))|(exact congrArg Value.bool (isEmpty_ne' _))|(exact congrArg Value.bool (isEmpty_eq _))|(simp;done)|(simp [*];done)),H',⟨by first|omega|exact Nat.le_refl _⟩,⟨by (with_reducible repeat (first|apply Kd.R_alloc|apply Kd.R_drewN|apply Kd.R_drew));exact Kd.R_mono HO307.out (fun _ hk => trivial)⟩,⟨by (with_reducible repeat (first|apply Kd.S_alloc|apply Kd.S_drewN|apply Kd.S_drew));exact Kd.S_mono HO303.out (fun _ hk => trivial)⟩,⟨by (with_reducible repeat first|refine zl_ ?_ _|refine zr_ ?_|refine zk_ ?_ _);exact BK290.out⟩,⟨by (with_reducible repeat first|refine zl_ ?_ _|refine zr_ ?_|refine zk_ ?_ _);exact BK304.out⟩,⟨by repeat (first|(with_reducible first|exact HB.out|apply za_|apply zn_|apply zd_|refine zs_ ?_ GE290.out|refine zs_ ?_ GE304.out)|exact HB.out)⟩⟩
    ·rw [if_neg c42] at H
     have c42b0 : (t308 == t299) = false:=beq_eq_false_iff_ne.mpr c42
     have c42b1 : (t308 != t299) = true:=bne_iff_ne.mpr c42
     (first|rw [c42b0]|(simp only [i64_w,i32_w];rw [c42b0])|skip)
     have H':=zm_ H
     clear H
     go_wp2
     go_meet
     case rel => exact ⟨_,(true),(by first|rfl|(exact congrArg Value.bool (isEmpty_ne _))|(exact congrArg Value.bool (isEmpty_ne' _))|(exact congrArg Value.bool (isEmpty_eq _))|(simp;done)|(simp [*];done)),H',⟨by first|omega|exact Nat.le_refl _⟩,⟨by (with_reducible repeat (first|apply Kd.R_alloc|apply Kd.R_drewN|apply Kd.R_drew));exact Kd.R_mono HO307.out (fun _ hk => trivial)⟩,⟨by (with_reducible repeat (first|apply Kd.S_alloc|apply Kd.S_drewN|apply Kd.S_drew));exact Kd.S_mono HO303.out (fun _ hk => trivial)⟩,⟨by (with_reducible repeat first|refine zl_ ?_ _|refine zr_ ?_|refine zk_ ?_ _);exact BK290.out⟩,⟨by (with_reducible repeat first|refine zl_ ?_ _|refine zr_ ?_|refine zk_ ?_ _);exact BK304.out⟩,⟨by repeat (first|(with_reducible first|exact HB.out|apply za_|apply zn_|apply zd_|refine zs_ ?_ GE290.out|refine zs_ ?_ GE304.out)|exact HB.out)⟩⟩
   case rest =>
    clear HC21
    try clear c1
    try clear c2
    try clear p2
    try clear c3
    try clear c4
    try clear c5
    try clear c5b0
    try clear c6
    try clear c10
    try clear c10b0
    try clear c12
    try clear c18
    try clear c25
    try clear c26
    try clear c27
    try clear c28
    try clear c36
    try clear c42
    try clear c42b0
    try clear c42b1
    try clear hcz12_0
    try clear hcz23_0
    try clear hcz26_0
    try clear hcz32_0
    try clear hcz37_0
    try clear hcz39_0
    try clear hcz7_0
    try clear hfz12_0
    try clear hfz23_0
    try clear hfz26_0
    try clear hfz32_0
    try clear hfz37_0
    try clear hfz39_0
    try clear hfz7_0
    obtain ⟨kq,x51_20,rfl,HA,HJ20,HO_11,HO_305000,BK290,BK304,HB⟩:=hcut
    cases kq with
    |zero => exact absurd HA.out (by simp [laws_FnExactEvalExpr.j0])
    |succ kj20 =>
     have H:=HA.out
     clear HA
     simp only [laws_FnExactEvalExpr.j0] at H
     by_cases c43 : x51_20 = true
     ·subst c43
      have H1 : (some false) = some r:=by rw [if_pos rfl] at H;exact H
      clear H
      have H:=H1
      clear H1
      obtain rfl:=Option.some.inj H
      go_wp2
      go_ret
      exact ⟨by first|rfl|(simp [errW_none,errW_some] <;> rfl)|(simp [*,errW_none,errW_some] <;> rfl),by repeat (first|(with_reducible first|exact HB.out|apply za_|apply zn_|apply zd_|refine zs_ ?_ GE290.out|refine zs_ ?_ GE304.out)|exact HB.out)⟩
     ·replace c43:=Bool.eq_false_iff.mpr c43
      subst c43
      have H1 : ((laws_toExpr.f kj20 l0_0).bind fun t310 => ((laws_eqExpr.f kj20 t301 t310).bind fun t313 => (if t313 = true then ((laws_toVarS.f kj20 l1).bind fun t314 => ((laws_eqVarS.f kj20 t305 t314).bind fun t317 => (if t317 = true then (some true) else (some false)))) else (some false)))) = some r:=by rw [if_neg (show ¬ (false = true) by decide)] at H;exact H
      clear H
      have H:=H1
      clear H1
      replace H:=Option.bind_eq_some_iff.mp H
      obtain ⟨t310,A440,H⟩:=H
      replace H : ((laws_eqExpr.f kj20 t301 t310).bind fun t313 => (if t313 = true then ((laws_toVarS.f kj20 l1).bind fun t314 => ((laws_eqVarS.f kj20 t305 t314).bind fun t317 => (if t317 = true then (some true) else (some false)))) else (some false))) = some r:=H
      have A44:=zm_ A440
      clear A440
      replace H:=Option.bind_eq_some_iff.mp H
      obtain ⟨t313,A450,H⟩:=H
      replace H : (if t313 = true then ((laws_toVarS.f kj20 l1).bind fun t314 => ((laws_eqVarS.f kj20 t305 t314).bind fun t317 => (if t317 = true then (some true) else (some false)))) else (some false)) = some r:=H
      have A45:=zm_ A450
      clear A450
      by_cases c46 : t313 = true
      ·subst c46
       have H1 : ((laws_toVarS.f kj20 l1).bind fun t314 => ((laws_eqVarS.f kj20 t305 t314).bind fun t317 => (if t317 = true then (some true) else (some false)))) = some r:=by rw [if_pos rfl] at H;exact H
       clear H
       have H:=H1
       clear H1
       replace H:=Option.bind_eq_some_iff.mp H
       obtain ⟨t314,A470,H⟩:=H
       replace H : ((laws_eqVarS.f kj20 t305 t314).bind fun t317 => (if t317 = true then (some true) else (some false))) = some r:=H
       have A47:=zm_ A470
       clear A470
       replace H:=Option.bind_eq_some_iff.mp H
       obtain ⟨t317,A480,H⟩:=H
       replace H : (if t317 = true then (some true) else (some false)) = some r:=H
       have A48:=zm_ A480
       clear A480
       by_cases c49 : t317 = true
       ·subst c49
        have H1 : (some true) = some r:=by rw [if_pos rfl] at H;exact H
        clear H
        have H:=H1
        clear H1
        obtain rfl:=Option.some.inj H
        try go_wp2
        have n0_:=zm_ (Kd.R_drew HO_11.out)
        have n1_:=zm_ (Kd.S_drew HO_305000.out)
        have n2_:=zm_ (zr_ BK290.out)
        have n3_:=zm_ (zr_ BK304.out)
        have n4_:=zm_ (zd_ HB.out)
        clear HO_11
        clear HO_305000
        clear BK290
        clear BK304
        clear HB
        have HO_11:=n0_
        have HO_305000:=n1_
        have BK290:=n2_
        have BK304:=n3_
        have HB:=n4_
        clear n0_ n1_ n2_ n3_ n4_
        refine start_ (n:=5) (S:=fun w' => w'.cell? ⟨gb304,0,none⟩ = some (.slice Ao35 t301.length co35) ∧ w'.cell? ⟨gb290,0,none⟩ = some (.slice A0_0 l0_0.length c0_0)) (ds:=[]) #[false,false,false,false,false] (by kernel_rfl) rfl rfl ⟨(zc_ BK304.out 0).trans rfl,(zc_ BK290.out 0).trans rfl⟩ (fun hHeld => ?_)
        generalize wc.drew = w50 at HO_11 HO_305000 BK290 BK304 HB hHeld ⊢
        refine take_ (i:=0) (N:=some 52) (v:=?_) (a':=?_) #[true,false,false,false,false] rfl rfl (by kernel_rfl) (fun _ _ _ h => h) (Or.inl ⟨by rfl,?_⟩) hHeld ?_ ?_
        rotate_left
        ·rintro w' ⟨s0,s1⟩
         go_simp
         with_reducible rfl
        rotate_left
        ·simp only [Act.put,List.setIfInBounds_toArray,List.set_cons_zero,List.set_cons_succ,i64_w,i32_w]
         rfl
        refine take_ (i:=1) (N:=some 53) (v:=?_) (a':=?_) #[true,true,false,false,false] rfl rfl (by kernel_rfl) (fun _ _ _ h => h) (Or.inl ⟨by rfl,?_⟩) hHeld ?_ ?_
        rotate_left
        ·rintro w' ⟨s0,s1⟩
         go_simp
         with_reducible rfl
        rotate_left
        ·simp only [Act.put,List.setIfInBounds_toArray,List.set_cons_zero,List.set_cons_succ,i64_w,i32_w]
         rfl
        refine one_ (i:=2) (N:=some 54) #[true,true,true,false,false] rfl rfl (by kernel_rfl) (by decide) (fun K hK => ?_)
        refine goes_ Try.func27 (by kernel_rfl) rfl #[.agg #[.slice A0_0 l0_0.length c0_0]] (by rfl) rfl rfl (by (try simp only [List.map_toArray,List.map_cons,List.map_nil]);first|done|rfl|(simp only [List.length_drop,List.length_take];rfl)) ?_
        with_reducible refine (laws_toExpr.calls kj20 _ _ l0_0 t310 _ ?side1 ?side2 A44.out).mono ?_
        (case side1 => repeat (first|exact (Kd.C_below HR0_0.out HB.out)|(with_reducible refine Kd.C_alloc ?_ _)|(with_reducible refine Kd.C_drewN ?_ _)|(with_reducible refine Kd.C_drew ?_)))
        (case side2 => exact HC0_0.out)
        rintro e w51 ⟨v311,rfl,ho0,hb⟩
        refine ⟨_,rfl,?_⟩
        have n0_:=zm_ (Kd.R_below (by (with_reducible repeat (first|apply Kd.R_alloc|apply Kd.R_drewN|apply Kd.R_drew));exact HO_11.out) hb)
        have n1_:=zm_ (Kd.S_elder' (by (with_reducible repeat (first|apply Kd.S_alloc|apply Kd.S_drewN|apply Kd.S_drew));exact HO_305000.out) (Kd.S_base ho0) hb)
        have n2_:=zm_ (Kd.S_lower (Kd.S_new' ho0 (Kd.S_lt (by (with_reducible repeat (first|apply Kd.S_alloc|apply Kd.S_drewN|apply Kd.S_drew));exact HO_305000.out))) (below_size (by repeat (first|(with_reducible first|exact HB.out|apply za_|apply zn_|apply zd_|refine zs_ ?_ GE290.out|refine zs_ ?_ GE304.out)|exact HB.out))))
        have n3_:=zm_ (blk_below (g:=gb290) (o:=.cells #[.slice A0_0 l0_0.length c0_0] 52 (0,0)) (by (with_reducible repeat first|refine zl_ ?_ _|refine zr_ ?_|refine zk_ ?_ _);exact BK290.out) hb)
        have n4_:=zm_ (blk_below (g:=gb304) (o:=.cells #[.slice Ao35 t301.length co35] 28 (0,0)) (by (with_reducible repeat first|refine zl_ ?_ _|refine zr_ ?_|refine zk_ ?_ _);exact BK304.out) hb)
        have n5_:=zm_ (below_step (by repeat (first|(with_reducible first|exact HB.out|apply za_|apply zn_|apply zd_|refine zs_ ?_ GE290.out|refine zs_ ?_ GE304.out)|exact HB.out)) hb)
        clear HO_11
        clear HO_305000
        clear BK290
        clear BK304
        clear HB
        have HO_11:=n0_
        have HO_305000:=n1_
        have HO312:=n2_
        have BK290:=n3_
        have BK304:=n4_
        have HB:=n5_
        clear n0_ n1_ n2_ n3_ n4_ n5_
        (try clear hb)
        (try clear hb2)
        (try clear hk)
        (try clear hi)
        (try clear ho0)
        obtain ⟨Ao52,co52,eo52⟩:=Kd.S_slice HO312.out
        (first|subst eo52|(injection eo52 with f1_ f2_ f3_;have f4_:=f1_.symm;have f5_:=f3_.symm;clear f1_ f2_ f3_;subst f4_;subst f5_))
        refine hK.out _ _ ⟨(zc_ BK304.out 0).trans rfl,(zc_ BK290.out 0).trans rfl⟩ (fun hHeld => ?_)
        clear hK K
        refine norm_ (a':=?_) ?_ ?_
        rotate_left
        ·show Act.put _ (some 54) _ = _
         simp only [Act.put,List.setIfInBounds_toArray,List.set_cons_zero,List.set_cons_succ,i64_w,i32_w]
         rfl
        refine one_ (i:=3) (N:=some 55) #[true,true,true,true,false] rfl rfl (by kernel_rfl) (by decide) (fun K hK => ?_)
        refine goes_ Try.func29 (by kernel_rfl) rfl #[.agg #[.slice Ao35 t301.length co35],.agg #[.slice Ao52 t310.length co52]] (by rfl) rfl rfl (by (try simp only [List.map_toArray,List.map_cons,List.map_nil]);first|done|rfl|(simp only [List.length_drop,List.length_take];rfl)) ?_
        with_reducible refine (laws_eqExpr.calls kj20 _ _ t301 _ _ t310 true _ ?side1 ?side2 ?side3 ?side4 A45.out).mono ?_
        (case side1 => repeat (first|exact (Kd.S_reads' HO_305000.out).2.2|(with_reducible refine Kd.C_alloc ?_ _)|(with_reducible refine Kd.C_drewN ?_ _)|(with_reducible refine Kd.C_drew ?_)))
        (case side2 => exact (Kd.S_reads' HO_305000.out).2.1)
        (case side3 => repeat (first|exact (Kd.S_reads' HO312.out).2.2|(with_reducible refine Kd.C_alloc ?_ _)|(with_reducible refine Kd.C_drewN ?_ _)|(with_reducible refine Kd.C_drew ?_)))
        (case side4 => exact (Kd.S_reads' HO312.out).2.1)
        rintro e w53 ⟨rfl,hb⟩
        refine ⟨_,rfl,?_⟩
        have n0_:=zm_ (Kd.R_below (by (with_reducible repeat (first|apply Kd.R_alloc|apply Kd.R_drewN|apply Kd.R_drew));exact HO_11.out) hb)
        have n1_:=zm_ (Kd.S_below (by (with_reducible repeat (first|apply Kd.S_alloc|apply Kd.S_drewN|apply Kd.S_drew));exact HO_305000.out) hb)
        have n2_:=zm_ (Kd.S_below (by (with_reducible repeat (first|apply Kd.S_alloc|apply Kd.S_drewN|apply Kd.S_drew));exact HO312.out) hb)
        have n3_:=zm_ (blk_below (g:=gb290) (o:=.cells #[.slice A0_0 l0_0.length c0_0] 52 (0,0)) (by (with_reducible repeat first|refine zl_ ?_ _|refine zr_ ?_|refine zk_ ?_ _);exact BK290.out) hb)
        have n4_:=zm_ (blk_below (g:=gb304) (o:=.cells #[.slice Ao35 t301.length co35] 28 (0,0)) (by (with_reducible repeat first|refine zl_ ?_ _|refine zr_ ?_|refine zk_ ?_ _);exact BK304.out) hb)
        have n5_:=zm_ (below_step (by repeat (first|(with_reducible first|exact HB.out|apply za_|apply zn_|apply zd_|refine zs_ ?_ GE290.out|refine zs_ ?_ GE304.out)|exact HB.out)) hb)
        clear HO_11
        clear HO_305000
        clear HO312
        clear BK290
        clear BK304
        clear HB
        have HO_11:=n0_
        have HO_305000:=n1_
        have HO312:=n2_
        have BK290:=n3_
        have BK304:=n4_
        have HB:=n5_
        clear n0_ n1_ n2_ n3_ n4_ n5_
        (try clear hb)
        (try clear hb2)
        (try clear hk)
        (try clear hi)
        refine hK.out _ _ ⟨(zc_ BK304.out 0).trans rfl,(zc_ BK290.out 0).trans rfl⟩ (fun hHeld => ?_)
        clear hK K
        refine norm_ (a':=?_) ?_ ?_
        rotate_left
        ·show Act.put _ (some 55) _ = _
         simp only [Act.put,List.setIfInBounds_toArray,List.set_cons_zero,List.set_cons_succ,i64_w,i32_w]
         rfl
        refine pure_ (i:=4) (N:=some 56) (v:=?_) (a':=?_) #[true,true,true,true,true] rfl rfl (by kernel_rfl) (fun _ _ _ h => h) (Or.inl ⟨by rfl,?_⟩) ?_ ?_
        rotate_left
        ·intro w'
         go_simp
         with_reducible rfl
        rotate_left
        ·simp only [Act.put,List.setIfInBounds_toArray,List.set_cons_zero,List.set_cons_succ,i64_w,i32_w]
         rfl
        refine done_ (by kernel_rfl) ?_
        try go_wp2_with (first|((with_reducible refine gate_callee (f:=28) rfl ?_);refine goesL_ (some 59) rfl rfl Try.func28 (by kernel_rfl) rfl #[.slice A1 l1.length c1] rfl (by (try simp only [List.map_toArray,List.map_cons,List.map_nil]);first|done|rfl|(simp only [List.length_drop,List.length_take];rfl)) ?_;(with_reducible refine (laws_toVarS.calls kj20 _ _ l1 t314 _ ?side1 ?side2 A47.out).mono ?_);(case side1 => repeat (first|exact (Kd.C_below HR1.out HB.out)|(with_reducible refine Kd.C_alloc ?_ _)|(with_reducible refine Kd.C_drewN ?_ _)|(with_reducible refine Kd.C_drew ?_)));(case side2 => exact HC1.out);rintro e w54 ⟨v315,rfl,ho0,hb⟩;refine ⟨_,rfl,?_⟩;have n0_:=zm_ (Kd.R_elder' (by (with_reducible repeat (first|apply Kd.R_alloc|apply Kd.R_drewN|apply Kd.R_drew));exact HO_11.out) (Kd.R_base ho0) hb);have n1_:=zm_ (Kd.S_below (by (with_reducible repeat (first|apply Kd.S_alloc|apply Kd.S_drewN|apply Kd.S_drew));exact HO_305000.out) hb);have n2_:=zm_ (Kd.S_below (by (with_reducible repeat (first|apply Kd.S_alloc|apply Kd.S_drewN|apply Kd.S_drew));exact HO312.out) hb);have n3_:=zm_ (Kd.R_lower (Kd.R_new' ho0 (Kd.R_lt (by (with_reducible repeat (first|apply Kd.R_alloc|apply Kd.R_drewN|apply Kd.R_drew));exact HO_11.out))) (below_size (by repeat (first|(with_reducible first|exact HB.out|apply za_|apply zn_|apply zd_|refine zs_ ?_ GE290.out|refine zs_ ?_ GE304.out)|exact HB.out))));have n4_:=zm_ (blk_below (g:=gb290) (o:=.cells #[.slice A0_0 l0_0.length c0_0] 52 (0,0)) (by (with_reducible repeat first|refine zl_ ?_ _|refine zr_ ?_|refine zk_ ?_ _);exact BK290.out) hb);have n5_:=zm_ (blk_below (g:=gb304) (o:=.cells #[.slice Ao35 t301.length co35] 28 (0,0)) (by (with_reducible repeat first|refine zl_ ?_ _|refine zr_ ?_|refine zk_ ?_ _);exact BK304.out) hb);have n6_:=zm_ (below_step (by repeat (first|(with_reducible first|exact HB.out|apply za_|apply zn_|apply zd_|refine zs_ ?_ GE290.out|refine zs_ ?_ GE304.out)|exact HB.out)) hb);clear HO_11;clear HO_305000;clear HO312;clear BK290;clear BK304;clear HB;have HO_11:=n0_;have HO_305000:=n1_;have HO312:=n2_;have HO316:=n3_;have BK290:=n4_;have BK304:=n5_;have HB:=n6_;clear n0_ n1_ n2_ n3_ n4_ n5_ n6_;(try clear hb);(try clear hb2);(try clear hk);(try clear hi);(try clear ho0);obtain ⟨Ao55,co55,eo55⟩:=Kd.R_slice HO316.out;subst eo55)|((with_reducible refine gate_callee (f:=30) rfl ?_);refine goesL_ (some 60) rfl rfl Try.func30 (by kernel_rfl) rfl #[.slice Ao40 t305.length co40,.slice Ao55 t314.length co55] rfl (by (try simp only [List.map_toArray,List.map_cons,List.map_nil]);first|done|rfl|(simp only [List.length_drop,List.length_take];rfl)) ?_;(with_reducible refine (laws_eqVarS.calls kj20 _ _ t305 _ _ t314 true _ ?side1 ?side2 ?side3 ?side4 A48.out).mono ?_);(case side1 => repeat (first|exact (Kd.R_reads' HO_11.out).2.2|(with_reducible refine Kd.C_alloc ?_ _)|(with_reducible refine Kd.C_drewN ?_ _)|(with_reducible refine Kd.C_drew ?_)));(case side2 => exact (Kd.R_reads' HO_11.out).2.1);(case side3 => repeat (first|exact (Kd.R_reads' HO316.out).2.2|(with_reducible refine Kd.C_alloc ?_ _)|(with_reducible refine Kd.C_drewN ?_ _)|(with_reducible refine Kd.C_drew ?_)));(case side4 => exact (Kd.R_reads' HO316.out).2.1);rintro e w56 ⟨rfl,hb⟩;refine ⟨_,rfl,?_⟩;have n0_:=zm_ (Kd.R_below (by (with_reducible repeat (first|apply Kd.R_alloc|apply Kd.R_drewN|apply Kd.R_drew));exact HO_11.out) hb);have n1_:=zm_ (Kd.S_below (by (with_reducible repeat (first|apply Kd.S_alloc|apply Kd.S_drewN|apply Kd.S_drew));exact HO_305000.out) hb);have n2_:=zm_ (Kd.S_below (by (with_reducible repeat (first|apply Kd.S_alloc|apply Kd.S_drewN|apply Kd.S_drew));exact HO312.out) hb);have n3_:=zm_ (Kd.R_below (by (with_reducible repeat (first|apply Kd.R_alloc|apply Kd.R_drewN|apply Kd.R_drew));exact HO316.out) hb);have n4_:=zm_ (blk_below (g:=gb290) (o:=.cells #[.slice A0_0 l0_0.length c0_0] 52 (0,0)) (by (with_reducible repeat first|refine zl_ ?_ _|refine zr_ ?_|refine zk_ ?_ _);exact BK290.out) hb);have n5_:=zm_ (blk_below (g:=gb304) (o:=.cells #[.slice Ao35 t301.length co35] 28 (0,0)) (by (with_reducible repeat first|refine zl_ ?_ _|refine zr_ ?_|refine zk_ ?_ _);exact BK304.out) hb);have n6_:=zm_ (below_step (by repeat (first|(with_reducible first|exact HB.out|apply za_|apply zn_|apply zd_|refine zs_ ?_ GE290.out|refine zs_ ?_ GE304.out)|exact HB.out)) hb);clear HO_11;clear HO_305000;clear HO312;clear HO316;clear BK290;clear BK304;clear HB;have HO_11:=n0_;have HO_305000:=n1_;have HO312:=n2_;have HO316:=n3_;have BK290:=n4_;have BK304:=n5_;have HB:=n6_;clear n0_ n1_ n2_ n3_ n4_ n5_ n6_;(try clear hb);(try clear hb2);(try clear hk);(try clear hi)))
        go_ret
        exact ⟨by first|rfl|(simp [errW_none,errW_some] <;> rfl)|(simp [*,errW_none,errW_some] <;> rfl),by repeat (first|(with_reducible first|exact HB.out|apply za_|apply zn_|apply zd_|refine zs_ ?_ GE290.out|refine zs_ ?_ GE304.out)|exact HB.out)⟩
       ·replace c49:=Bool.eq_false_iff.mpr c49
        subst c49
        have H1 : (some false) = some r:=by rw [if_neg (show ¬ (false = true) by decide)] at H;exact H
        clear H
        have H:=H1
        clear H1
        obtain rfl:=Option.some.inj H
        try go_wp2
        have n0_:=zm_ (Kd.R_drew HO_11.out)
        have n1_:=zm_ (Kd.S_drew HO_305000.out)
        have n2_:=zm_ (zr_ BK290.out)
        have n3_:=zm_ (zr_ BK304.out)
        have n4_:=zm_ (zd_ HB.out)
        clear HO_11
        clear HO_305000
        clear BK290
        clear BK304
        clear HB
        have HO_11:=n0_
        have HO_305000:=n1_
        have BK290:=n2_
        have BK304:=n3_
        have HB:=n4_
        clear n0_ n1_ n2_ n3_ n4_
        refine start_ (n:=5) (S:=fun w' => w'.cell? ⟨gb304,0,none⟩ = some (.slice Ao35 t301.length co35) ∧ w'.cell? ⟨gb290,0,none⟩ = some (.slice A0_0 l0_0.length c0_0)) (ds:=[]) #[false,false,false,false,false] (by kernel_rfl) rfl rfl ⟨(zc_ BK304.out 0).trans rfl,(zc_ BK290.out 0).trans rfl⟩ (fun hHeld => ?_)
        generalize wc.drew = w57 at HO_11 HO_305000 BK290 BK304 HB hHeld ⊢
        refine take_ (i:=0) (N:=some 52) (v:=?_) (a':=?_) #[true,false,false,false,false] rfl rfl (by kernel_rfl) (fun _ _ _ h => h) (Or.inl ⟨by rfl,?_⟩) hHeld ?_ ?_
        rotate_left
        ·rintro w' ⟨s0,s1⟩
         go_simp
         with_reducible rfl
        rotate_left
        ·simp only [Act.put,List.setIfInBounds_toArray,List.set_cons_zero,List.set_cons_succ,i64_w,i32_w]
         rfl
        refine take_ (i:=1) (N:=some 53) (v:=?_) (a':=?_) #[true,true,false,false,false] rfl rfl (by kernel_rfl) (fun _ _ _ h => h) (Or.inl ⟨by rfl,?_⟩) hHeld ?_ ?_
        rotate_left
        ·rintro w' ⟨s0,s1⟩
         go_simp
         with_reducible rfl
        rotate_left
        ·simp only [Act.put,List.setIfInBounds_toArray,List.set_cons_zero,List.set_cons_succ,i64_w,i32_w]
         rfl
        refine one_ (i:=2) (N:=some 54) #[true,true,true,false,false] rfl rfl (by kernel_rfl) (by decide) (fun K hK => ?_)
        refine goes_ Try.func27 (by kernel_rfl) rfl #[.agg #[.slice A0_0 l0_0.length c0_0]] (by rfl) rfl rfl (by (try simp only [List.map_toArray,List.map_cons,List.map_nil]);first|done|rfl|(simp only [List.length_drop,List.length_take];rfl)) ?_
        with_reducible refine (laws_toExpr.calls kj20 _ _ l0_0 t310 _ ?side1 ?side2 A44.out).mono ?_
        (case side1 => repeat (first|exact (Kd.C_below HR0_0.out HB.out)|(with_reducible refine Kd.C_alloc ?_ _)|(with_reducible refine Kd.C_drewN ?_ _)|(with_reducible refine Kd.C_drew ?_)))
        (case side2 => exact HC0_0.out)
        rintro e w58 ⟨v311,rfl,ho0,hb⟩
        refine ⟨_,rfl,?_⟩
        have n0_:=zm_ (Kd.R_below (by (with_reducible repeat (first|apply Kd.R_alloc|apply Kd.R_drewN|apply Kd.R_drew));exact HO_11.out) hb)
        have n1_:=zm_ (Kd.S_elder' (by (with_reducible repeat (first|apply Kd.S_alloc|apply Kd.S_drewN|apply Kd.S_drew));exact HO_305000.out) (Kd.S_base ho0) hb)
        have n2_:=zm_ (Kd.S_lower (Kd.S_new' ho0 (Kd.S_lt (by (with_reducible repeat (first|apply Kd.S_alloc|apply Kd.S_drewN|apply Kd.S_drew));exact HO_305000.out))) (below_size (by repeat (first|(with_reducible first|exact HB.out|apply za_|apply zn_|apply zd_|refine zs_ ?_ GE290.out|refine zs_ ?_ GE304.out)|exact HB.out))))
        have n3_:=zm_ (blk_below (g:=gb290) (o:=.cells #[.slice A0_0 l0_0.length c0_0] 52 (0,0)) (by (with_reducible repeat first|refine zl_ ?_ _|refine zr_ ?_|refine zk_ ?_ _);exact BK290.out) hb)
        have n4_:=zm_ (blk_below (g:=gb304) (o:=.cells #[.slice Ao35 t301.length co35] 28 (0,0)) (by (with_reducible repeat first|refine zl_ ?_ _|refine zr_ ?_|refine zk_ ?_ _);exact BK304.out) hb)
        have n5_:=zm_ (below_step (by repeat (first|(with_reducible first|exact HB.out|apply za_|apply zn_|apply zd_|refine zs_ ?_ GE290.out|refine zs_ ?_ GE304.out)|exact HB.out)) hb)
        clear HO_11
        clear HO_305000
        clear BK290
        clear BK304
        clear HB
        have HO_11:=n0_
        have HO_305000:=n1_
        have HO312:=n2_
        have BK290:=n3_
        have BK304:=n4_
        have HB:=n5_
        clear n0_ n1_ n2_ n3_ n4_ n5_
        (try clear hb)
        (try clear hb2)
        (try clear hk)
        (try clear hi)
        (try clear ho0)
        obtain ⟨Ao59,co59,eo59⟩:=Kd.S_slice HO312.out
        (first|subst eo59|(injection eo59 with f1_ f2_ f3_;have f4_:=f1_.symm;have f5_:=f3_.symm;clear f1_ f2_ f3_;subst f4_;subst f5_))
        refine hK.out _ _ ⟨(zc_ BK304.out 0).trans rfl,(zc_ BK290.out 0).trans rfl⟩ (fun hHeld => ?_)
        clear hK K
        refine norm_ (a':=?_) ?_ ?_
        rotate_left
        ·show Act.put _ (some 54) _ = _
         simp only [Act.put,List.setIfInBounds_toArray,List.set_cons_zero,List.set_cons_succ,i64_w,i32_w]
         rfl
        refine one_ (i:=3) (N:=some 55) #[true,true,true,true,false] rfl rfl (by kernel_rfl) (by decide) (fun K hK => ?_)
        refine goes_ Try.func29 (by kernel_rfl) rfl #[.agg #[.slice Ao35 t301.length co35],.agg #[.slice Ao59 t310.length co59]] (by rfl) rfl rfl (by (try simp only [List.map_toArray,List.map_cons,List.map_nil]);first|done|rfl|(simp only [List.length_drop,List.length_take];rfl)) ?_
        with_reducible refine (laws_eqExpr.calls kj20 _ _ t301 _ _ t310 true _ ?side1 ?side2 ?side3 ?side4 A45.out).mono ?_
        (case side1 => repeat (first|exact (Kd.S_reads' HO_305000.out).2.2|(with_reducible refine Kd.C_alloc ?_ _)|(with_reducible refine Kd.C_drewN ?_ _)|(with_reducible refine Kd.C_drew ?_)))
        (case side2 => exact (Kd.S_reads' HO_305000.out).2.1)
        (case side3 => repeat (first|exact (Kd.S_reads' HO312.out).2.2|(with_reducible refine Kd.C_alloc ?_ _)|(with_reducible refine Kd.C_drewN ?_ _)|(with_reducible refine Kd.C_drew ?_)))
        (case side4 => exact (Kd.S_reads' HO312.out).2.1)
        rintro e w60 ⟨rfl,hb⟩
        refine ⟨_,rfl,?_⟩
        have n0_:=zm_ (Kd.R_below (by (with_reducible repeat (first|apply Kd.R_alloc|apply Kd.R_drewN|apply Kd.R_drew));exact HO_11.out) hb)
        have n1_:=zm_ (Kd.S_below (by (with_reducible repeat (first|apply Kd.S_alloc|apply Kd.S_drewN|apply Kd.S_drew));exact HO_305000.out) hb)
        have n2_:=zm_ (Kd.S_below (by (with_reducible repeat (first|apply Kd.S_alloc|apply Kd.S_drewN|apply Kd.S_drew));exact HO312.out) hb)
        have n3_:=zm_ (blk_below (g:=gb290) (o:=.cells #[.slice A0_0 l0_0.length c0_0] 52 (0,0)) (by (with_reducible repeat first|refine zl_ ?_ _|refine zr_ ?_|refine zk_ ?_ _);exact BK290.out) hb)
        have n4_:=zm_ (blk_below (g:=gb304) (o:=.cells #[.slice Ao35 t301.length co35] 28 (0,0)) (by (with_reducible repeat first|refine zl_ ?_ _|refine zr_ ?_|refine zk_ ?_ _);exact BK304.out) hb)
        have n5_:=zm_ (below_step (by repeat (first|(with_reducible first|exact HB.out|apply za_|apply zn_|apply zd_|refine zs_ ?_ GE290.out|refine zs_ ?_ GE304.out)|exact HB.out)) hb)
        clear HO_11
        clear HO_305000
        clear HO312
        clear BK290
        clear BK304
        clear HB
        have HO_11:=n0_
        have HO_305000:=n1_
        have HO312:=n2_
        have BK290:=n3_
        have BK304:=n4_
        have HB:=n5_
        clear n0_ n1_ n2_ n3_ n4_ n5_
        (try clear hb)
        (try clear hb2)
        (try clear hk)
        (try clear hi)
        refine hK.out _ _ ⟨(zc_ BK304.out 0).trans rfl,(zc_ BK290.out 0).trans rfl⟩ (fun hHeld => ?_)
        clear hK K
        refine norm_ (a':=?_) ?_ ?_
        rotate_left
        ·show Act.put _ (some 55) _ = _
         simp only [Act.put,List.setIfInBounds_toArray,List.set_cons_zero,List.set_cons_succ,i64_w,i32_w]
         rfl
        refine pure_ (i:=4) (N:=some 56) (v:=?_) (a':=?_) #[true,true,true,true,true] rfl rfl (by kernel_rfl) (fun _ _ _ h => h) (Or.inl ⟨by rfl,?_⟩) ?_ ?_
        rotate_left
        ·intro w'
         go_simp
         with_reducible rfl
        rotate_left
        ·simp only [Act.put,List.setIfInBounds_toArray,List.set_cons_zero,List.set_cons_succ,i64_w,i32_w]
         rfl
        refine done_ (by kernel_rfl) ?_
        try go_wp2_with (first|((with_reducible refine gate_callee (f:=28) rfl ?_);refine goesL_ (some 59) rfl rfl Try.func28 (by kernel_rfl) rfl #[.slice A1 l1.length c1] rfl (by (try simp only [List.map_toArray,List.map_cons,List.map_nil]);first|done|rfl|(simp only [List.length_drop,List.length_take];rfl)) ?_;(with_reducible refine (laws_toVarS.calls kj20 _ _ l1 t314 _ ?side1 ?side2 A47.out).mono ?_);(case side1 => repeat (first|exact (Kd.C_below HR1.out HB.out)|(with_reducible refine Kd.C_alloc ?_ _)|(with_reducible refine Kd.C_drewN ?_ _)|(with_reducible refine Kd.C_drew ?_)));(case side2 => exact HC1.out);rintro e w61 ⟨v315,rfl,ho0,hb⟩;refine ⟨_,rfl,?_⟩;have n0_:=zm_ (Kd.R_elder' (by (with_reducible repeat (first|apply Kd.R_alloc|apply Kd.R_drewN|apply Kd.R_drew));exact HO_11.out) (Kd.R_base ho0) hb);have n1_:=zm_ (Kd.S_below (by (with_reducible repeat (first|apply Kd.S_alloc|apply Kd.S_drewN|apply Kd.S_drew));exact HO_305000.out) hb);have n2_:=zm_ (Kd.S_below (by (with_reducible repeat (first|apply Kd.S_alloc|apply Kd.S_drewN|apply Kd.S_drew));exact HO312.out) hb);have n3_:=zm_ (Kd.R_lower (Kd.R_new' ho0 (Kd.R_lt (by (with_reducible repeat (first|apply Kd.R_alloc|apply Kd.R_drewN|apply Kd.R_drew));exact HO_11.out))) (below_size (by repeat (first|(with_reducible first|exact HB.out|apply za_|apply zn_|apply zd_|refine zs_ ?_ GE290.out|refine zs_ ?_ GE304.out)|exact HB.out))));have n4_:=zm_ (blk_below (g:=gb290) (o:=.cells #[.slice A0_0 l0_0.length c0_0] 52 (0,0)) (by (with_reducible repeat first|refine zl_ ?_ _|refine zr_ ?_|refine zk_ ?_ _);exact BK290.out) hb);have n5_:=zm_ (blk_below (g:=gb304) (o:=.cells #[.slice Ao35 t301.length co35] 28 (0,0)) (by (with_reducible repeat first|refine zl_ ?_ _|refine zr_ ?_|refine zk_ ?_ _);exact BK304.out) hb);have n6_:=zm_ (below_step (by repeat (first|(with_reducible first|exact HB.out|apply za_|apply zn_|apply zd_|refine zs_ ?_ GE290.out|refine zs_ ?_ GE304.out)|exact HB.out)) hb);clear HO_11;clear HO_305000;clear HO312;clear BK290;clear BK304;clear HB;have HO_11:=n0_;have HO_305000:=n1_;have HO312:=n2_;have HO316:=n3_;have BK290:=n4_;have BK304:=n5_;have HB:=n6_;clear n0_ n1_ n2_ n3_ n4_ n5_ n6_;(try clear hb);(try clear hb2);(try clear hk);(try clear hi);(try clear ho0);obtain ⟨Ao62,co62,eo62⟩:=Kd.R_slice HO316.out;subst eo62)|((with_reducible refine gate_callee (f:=30) rfl ?_);refine goesL_ (some 60) rfl rfl Try.func30 (by kernel_rfl) rfl #[.slice Ao40 t305.length co40,.slice Ao62 t314.length co62] rfl (by (try simp only [List.map_toArray,List.map_cons,List.map_nil]);first|done|rfl|(simp only [List.length_drop,List.length_take];rfl)) ?_;(with_reducible refine (laws_eqVarS.calls kj20 _ _ t305 _ _ t314 false _ ?side1 ?side2 ?side3 ?side4 A48.out).mono ?_);(case side1 => repeat (first|exact (Kd.R_reads' HO_11.out).2.2|(with_reducible refine Kd.C_alloc ?_ _)|(with_reducible refine Kd.C_drewN ?_ _)|(with_reducible refine Kd.C_drew ?_)));(case side2 => exact (Kd.R_reads' HO_11.out).2.1);(case side3 => repeat (first|exact (Kd.R_reads' HO316.out).2.2|(with_reducible refine Kd.C_alloc ?_ _)|(with_reducible refine Kd.C_drewN ?_ _)|(with_reducible refine Kd.C_drew ?_)));(case side4 => exact (Kd.R_reads' HO316.out).2.1);rintro e w63 ⟨rfl,hb⟩;refine ⟨_,rfl,?_⟩;have n0_:=zm_ (Kd.R_below (by (with_reducible repeat (first|apply Kd.R_alloc|apply Kd.R_drewN|apply Kd.R_drew));exact HO_11.out) hb);have n1_:=zm_ (Kd.S_below (by (with_reducible repeat (first|apply Kd.S_alloc|apply Kd.S_drewN|apply Kd.S_drew));exact HO_305000.out) hb);have n2_:=zm_ (Kd.S_below (by (with_reducible repeat (first|apply Kd.S_alloc|apply Kd.S_drewN|apply Kd.S_drew));exact HO312.out) hb);have n3_:=zm_ (Kd.R_below (by (with_reducible repeat (first|apply Kd.R_alloc|apply Kd.R_drewN|apply Kd.R_drew));exact HO316.out) hb);have n4_:=zm_ (blk_below (g:=gb290) (o:=.cells #[.slice A0_0 l0_0.length c0_0] 52 (0,0)) (by (with_reducible repeat first|refine zl_ ?_ _|refine zr_ ?_|refine zk_ ?_ _);exact BK290.out) hb);have n5_:=zm_ (blk_below (g:=gb304) (o:=.cells #[.slice Ao35 t301.length co35] 28 (0,0)) (by (with_reducible repeat first|refine zl_ ?_ _|refine zr_ ?_|refine zk_ ?_ _);exact BK304.out) hb);have n6_:=zm_ (below_step (by repeat (first|(with_reducible first|exact HB.out|apply za_|apply zn_|apply zd_|refine zs_ ?_ GE290.out|refine zs_ ?_ GE304.out)|exact HB.out)) hb);clear HO_11;clear HO_305000;clear HO312;clear HO316;clear BK290;clear BK304;clear HB;have HO_11:=n0_;have HO_305000:=n1_;have HO312:=n2_;have HO316:=n3_;have BK290:=n4_;have BK304:=n5_;have HB:=n6_;clear n0_ n1_ n2_ n3_ n4_ n5_ n6_;(try clear hb);(try clear hb2);(try clear hk);(try clear hi)))
        go_ret
        exact ⟨by first|rfl|(simp [errW_none,errW_some] <;> rfl)|(simp [*,errW_none,errW_some] <;> rfl),by repeat (first|(with_reducible first|exact HB.out|apply za_|apply zn_|apply zd_|refine zs_ ?_ GE290.out|refine zs_ ?_ GE304.out)|exact HB.out)⟩
      ·replace c46:=Bool.eq_false_iff.mpr c46
       subst c46
       have H1 : (some false) = some r:=by rw [if_neg (show ¬ (false = true) by decide)] at H;exact H
       clear H
       have H:=H1
       clear H1
       obtain rfl:=Option.some.inj H
       try go_wp2
       have n0_:=zm_ (Kd.R_drew HO_11.out)
       have n1_:=zm_ (Kd.S_drew HO_305000.out)
       have n2_:=zm_ (zr_ BK290.out)
       have n3_:=zm_ (zr_ BK304.out)
       have n4_:=zm_ (zd_ HB.out)
       clear HO_11
       clear HO_305000
       clear BK290
       clear BK304
       clear HB
       have HO_11:=n0_
       have HO_305000:=n1_
       have BK290:=n2_
       have BK304:=n3_
       have HB:=n4_
       clear n0_ n1_ n2_ n3_ n4_
       refine start_ (n:=5) (S:=fun w' => w'.cell? ⟨gb304,0,none⟩ = some (.slice Ao35 t301.length co35) ∧ w'.cell? ⟨gb290,0,none⟩ = some (.slice A0_0 l0_0.length c0_0)) (ds:=[]) #[false,false,false,false,false] (by kernel_rfl) rfl rfl ⟨(zc_ BK304.out 0).trans rfl,(zc_ BK290.out 0).trans rfl⟩ (fun hHeld => ?_)
       generalize wc.drew = w64 at HO_11 HO_305000 BK290 BK304 HB hHeld ⊢
       refine take_ (i:=0) (N:=some 52) (v:=?_) (a':=?_) #[true,false,false,false,false] rfl rfl (by kernel_rfl) (fun _ _ _ h => h) (Or.inl ⟨by rfl,?_⟩) hHeld ?_ ?_
       rotate_left
       ·rintro w' ⟨s0,s1⟩
        go_simp
        with_reducible rfl
       rotate_left
       ·simp only [Act.put,List.setIfInBounds_toArray,List.set_cons_zero,List.set_cons_succ,i64_w,i32_w]
        rfl
       refine take_ (i:=1) (N:=some 53) (v:=?_) (a':=?_) #[true,true,false,false,false] rfl rfl (by kernel_rfl) (fun _ _ _ h => h) (Or.inl ⟨by rfl,?_⟩) hHeld ?_ ?_
       rotate_left
       ·rintro w' ⟨s0,s1⟩
        go_simp
        with_reducible rfl
       rotate_left
       ·simp only [Act.put,List.setIfInBounds_toArray,List.set_cons_zero,List.set_cons_succ,i64_w,i32_w]
        rfl
       refine one_ (i:=2) (N:=some 54) #[true,true,true,false,false] rfl rfl (by kernel_rfl) (by decide) (fun K hK => ?_)
       refine goes_ Try.func27 (by kernel_rfl) rfl #[.agg #[.slice A0_0 l0_0.length c0_0]] (by rfl) rfl rfl (by (try simp only [List.map_toArray,List.map_cons,List.map_nil]);first|done|rfl|(simp only [List.length_drop,List.length_take];rfl)) ?_
       with_reducible refine (laws_toExpr.calls kj20 _ _ l0_0 t310 _ ?side1 ?side2 A44.out).mono ?_
       (case side1 => repeat (first|exact (Kd.C_below HR0_0.out HB.out)|(with_reducible refine Kd.C_alloc ?_ _)|(with_reducible refine Kd.C_drewN ?_ _)|(with_reducible refine Kd.C_drew ?_)))
       (case side2 => exact HC0_0.out)
       rintro e w65 ⟨v311,rfl,ho0,hb⟩
       refine ⟨_,rfl,?_⟩
       have n0_:=zm_ (Kd.R_below (by (with_reducible repeat (first|apply Kd.R_alloc|apply Kd.R_drewN|apply Kd.R_drew));exact HO_11.out) hb)
       have n1_:=zm_ (Kd.S_elder' (by (with_reducible repeat (first|apply Kd.S_alloc|apply Kd.S_drewN|apply Kd.S_drew));exact HO_305000.out) (Kd.S_base ho0) hb)
       have n2_:=zm_ (Kd.S_lower (Kd.S_new' ho0 (Kd.S_lt (by (with_reducible repeat (first|apply Kd.S_alloc|apply Kd.S_drewN|apply Kd.S_drew));exact HO_305000.out))) (below_size (by repeat (first|(with_reducible first|exact HB.out|apply za_|apply zn_|apply zd_|refine zs_ ?_ GE290.out|refine zs_ ?_ GE304.out)|exact HB.out))))
       have n3_:=zm_ (blk_below (g:=gb290) (o:=.cells #[.slice A0_0 l0_0.length c0_0] 52 (0,0)) (by (with_reducible repeat first|refine zl_ ?_ _|refine zr_ ?_|refine zk_ ?_ _);exact BK290.out) hb)
       have n4_:=zm_ (blk_below (g:=gb304) (o:=.cells #[.slice Ao35 t301.length co35] 28 (0,0)) (by (with_reducible repeat first|refine zl_ ?_ _|refine zr_ ?_|refine zk_ ?_ _);exact BK304.out) hb)
       have n5_:=zm_ (below_step (by repeat (first|(with_reducible first|exact HB.out|apply za_|apply zn_|apply zd_|refine zs_ ?_ GE290.out|refine zs_ ?_ GE304.out)|exact HB.out)) hb)
       clear HO_11
       clear HO_305000
       clear BK290
       clear BK304
       clear HB
       have HO_11:=n0_
       have HO_305000:=n1_
       have HO312:=n2_
       have BK290:=n3_
       have BK304:=n4_
       have HB:=n5_
       clear n0_ n1_ n2_ n3_ n4_ n5_
       (try clear hb)
       (try clear hb2)
       (try clear hk)
       (try clear hi)
       (try clear ho0)
       obtain ⟨Ao66,co66,eo66⟩:=Kd.S_slice HO312.out
       (first|subst eo66|(injection eo66 with f1_ f2_ f3_;have f4_:=f1_.symm;have f5_:=f3_.symm;clear f1_ f2_ f3_;subst f4_;subst f5_))
       refine hK.out _ _ ⟨(zc_ BK304.out 0).trans rfl,(zc_ BK290.out 0).trans rfl⟩ (fun hHeld => ?_)
       clear hK K
       refine norm_ (a':=?_) ?_ ?_
       rotate_left
       ·show Act.put _ (some 54) _ = _
        simp only [Act.put,List.setIfInBounds_toArray,List.set_cons_zero,List.set_cons_succ,i64_w,i32_w]
        rfl
       refine one_ (i:=3) (N:=some 55) #[true,true,true,true,false] rfl rfl (by kernel_rfl) (by decide) (fun K hK => ?_)
       refine goes_ Try.func29 (by kernel_rfl) rfl #[.agg #[.slice Ao35 t301.length co35],.agg #[.slice Ao66 t310.length co66]] (by rfl) rfl rfl (by (try simp only [List.map_toArray,List.map_cons,List.map_nil]);first|done|rfl|(simp only [List.length_drop,List.length_take];rfl)) ?_
       with_reducible refine (laws_eqExpr.calls kj20 _ _ t301 _ _ t310 false _ ?side1 ?side2 ?side3 ?side4 A45.out).mono ?_
       (case side1 => repeat (first|exact (Kd.S_reads' HO_305000.out).2.2|(with_reducible refine Kd.C_alloc ?_ _)|(with_reducible refine Kd.C_drewN ?_ _)|(with_reducible refine Kd.C_drew ?_)))
       (case side2 => exact (Kd.S_reads' HO_305000.out).2.1)
       (case side3 => repeat (first|exact (Kd.S_reads' HO312.out).2.2|(with_reducible refine Kd.C_alloc ?_ _)|(with_reducible refine Kd.C_drewN ?_ _)|(with_reducible refine Kd.C_drew ?_)))
       (case side4 => exact (Kd.S_reads' HO312.out).2.1)
       rintro e w67 ⟨rfl,hb⟩
       refine ⟨_,rfl,?_⟩
       have n0_:=zm_ (Kd.R_below (by (with_reducible repeat (first|apply Kd.R_alloc|apply Kd.R_drewN|apply Kd.R_drew));exact HO_11.out) hb)
       have n1_:=zm_ (Kd.S_below (by (with_reducible repeat (first|apply Kd.S_alloc|apply Kd.S_drewN|apply Kd.S_drew));exact HO_305000.out) hb)
       have n2_:=zm_ (Kd.S_below (by (with_reducible repeat (first|apply Kd.S_alloc|apply Kd.S_drewN|apply Kd.S_drew));exact HO312.out) hb)
       have n3_:=zm_ (blk_below (g:=gb290) (o:=.cells #[.slice A0_0 l0_0.length c0_0] 52 (0,0)) (by (with_reducible repeat first|refine zl_ ?_ _|refine zr_ ?_|refine zk_ ?_ _);exact BK290.out) hb)
       have n4_:=zm_ (blk_below (g:=gb304) (o:=.cells #[.slice Ao35 t301.length co35] 28 (0,0)) (by (with_reducible repeat first|refine zl_ ?_ _|refine zr_ ?_|refine zk_ ?_ _);exact BK304.out) hb)
       have n5_:=zm_ (below_step (by repeat (first|(with_reducible first|exact HB.out|apply za_|apply zn_|apply zd_|refine zs_ ?_ GE290.out|refine zs_ ?_ GE304.out)|exact HB.out)) hb)
       clear HO_11
       clear HO_305000
       clear HO312
       clear BK290
       clear BK304
       clear HB
       have HO_11:=n0_
       have HO_305000:=n1_
       have HO312:=n2_
       have BK290:=n3_
       have BK304:=n4_
       have HB:=n5_
       clear n0_ n1_ n2_ n3_ n4_ n5_
       (try clear hb)
       (try clear hb2)
       (try clear hk)
       (try clear hi)
       refine hK.out _ _ ⟨(zc_ BK304.out 0).trans rfl,(zc_ BK290.out 0).trans rfl⟩ (fun hHeld => ?_)
       clear hK K
       refine norm_ (a':=?_) ?_ ?_
       rotate_left
       ·show Act.put _ (some 55) _ = _
        simp only [Act.put,List.setIfInBounds_toArray,List.set_cons_zero,List.set_cons_succ,i64_w,i32_w]
        rfl
       refine pure_ (i:=4) (N:=some 56) (v:=?_) (a':=?_) #[true,true,true,true,true] rfl rfl (by kernel_rfl) (fun _ _ _ h => h) (Or.inl ⟨by rfl,?_⟩) ?_ ?_
       rotate_left
       ·intro w'
        go_simp
        with_reducible rfl
       rotate_left
       ·simp only [Act.put,List.setIfInBounds_toArray,List.set_cons_zero,List.set_cons_succ,i64_w,i32_w]
        rfl
       refine done_ (by kernel_rfl) ?_
       try go_wp2
       go_ret
       exact ⟨by first|rfl|(simp [errW_none,errW_some] <;> rfl)|(simp [*,errW_none,errW_some] <;> rfl),by repeat (first|(with_reducible first|exact HB.out|apply za_|apply zn_|apply zd_|refine zs_ ?_ GE290.out|refine zs_ ?_ GE304.out)|exact HB.out)⟩

end Go.Proofs.Ytnmhggdaccbbfaa.MFnExactEvalExpr
