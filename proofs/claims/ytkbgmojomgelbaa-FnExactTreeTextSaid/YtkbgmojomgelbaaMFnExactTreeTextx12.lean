import Derived.Test.YtkbgmojomgelbaaMFnExactTreeTextx0
import Derived.Test.YtkbgmojomgelbaaMFnExactTreeTextx2
import Derived.Test.YtkbgmojomgelbaaMFnExactTreeTextx3
import Derived.Test.YtkbgmojomgelbaaMFnExactTreeTextx5
import Derived.Test.YtkbgmojomgelbaaMFnExactTreeTextx6
import Derived.Test.YtkbgmojomgelbaaMFnExactTreeTextx10
import Derived.Test.YtkbgmojomgelbaaMFnExactTreeTextx11
namespace Go.Proofs.Ytkbgmojomgelbaa.MFnExactTreeText
open Go.RowKit Go.Proofs.YtkbgmojomgelbaaW.PrintWords Go.Proofs.YtkbgmojomgelbaaW.PrintLast Go.Proofs.YtkbgmojomgelbaaW.PrintMore
attribute [local go_sem] max2_int min2_int max_two min_two max_three min_three max_four min_four
set_option linter.unusedVariables false
set_option linter.unusedSimpArgs false

def laws_FnExactTreeText.f (k : Nat) (l0_0 : List (S61)) (l1_0 : List (S63)) : Option (Bool):=(laws_szGrammar.f k l0_0 1048576).bind fun t362 => (if t362 < 0 then (some true) else ((laws_szTree.f k l1_0 t362).bind fun t363 => (if t363 < 0 then (some true) else ((laws_toGrammar.f k l0_0).bind fun t364 => ((laws_toTree.f k l1_0).bind fun t367 => ((spec_TreeText.f k t364 t367).bind fun t370 => ((laws_toGrammar.f k l0_0).bind fun t371 => ((laws_toTree.f k l1_0).bind fun t375 => ((impl_TreeText.f k t371 t375).bind fun t379 => (if t379.toList = t370.toList then ((laws_toGrammar.f k l0_0).bind fun t380 => ((laws_eqGrammar.f k t371 t380).bind fun t383 => (if t383 = true then ((laws_toTree.f k l1_0).bind fun t384 => ((laws_eqTree.f k t375 t384).bind fun t387 => (if t387 = true then (some true) else (some false)))) else (some false)))) else (some false)))))))))))
theorem laws_FnExactTreeText.mono : ∀ a0 a1 k,LeO (laws_FnExactTreeText.f k a0 a1) (laws_FnExactTreeText.f (k + 1) a0 a1):=by
 intro a0 a1 k
 unfold laws_FnExactTreeText.f
 repeat' first
   |(with_reducible exact impl_TreeText.mono _ _ _)
   |(with_reducible exact laws_eqGrammar.mono _ _ _)
   |(with_reducible exact laws_eqTree.mono _ _ _)
   |(with_reducible exact laws_szGrammar.mono _ _ _)
   |(with_reducible exact laws_szTree.mono _ _ _)
   |(with_reducible exact laws_toGrammar.mono _ _)
   |(with_reducible exact laws_toTree.mono _ _)
   |(with_reducible exact spec_TreeText.mono _ _ _)
   |(with_reducible exact LeO.refl _)
   |(with_reducible exact LeO.none _)
   |(with_reducible refine LeO.ite ?_ ?_)
   |(with_reducible refine LeO.bind ?_ (fun _ => ?_))
set_option maxHeartbeats 8000000 in
set_option maxRecDepth 100000 in
theorem laws_FnExactTreeText.calls (k : Nat) (A0_0 : Option Addr) (c0_0 : Nat) (l0_0 : List (S61)) (A1_0 : Option Addr) (c1_0 : Nat) (l1_0 : List (S63)) (r : Bool) (w : World) (hr0_0 : Kd.C k61 w A0_0 l0_0.length l0_0) (hc0_0 : l0_0.length ≤ c0_0) (hr1_0 : Kd.C k63 w A1_0 l1_0.length l1_0) (hc1_0 : l1_0.length ≤ c1_0) (h : laws_FnExactTreeText.f k l0_0 l1_0 = some r) :
  Calls Try.prog 3 #[.agg #[.slice A0_0 l0_0.length c0_0],.agg #[.slice A1_0 l1_0.length c1_0]] w fun e w' => e = .returned (.bool r) ∧ Below w.heap.size w w':=by
 have hu24:=Try.underlying24
 have hu27:=Try.underlying27
 have hu33:=Try.underlying33
 have hu37:=Try.underlying37
 have HR0_0:=zm_ hr0_0
 have HC0_0:=zm_ hc0_0
 clear hr0_0 hc0_0
 have HR1_0:=zm_ hr1_0
 have HC1_0:=zm_ hc1_0
 clear hr1_0 hc1_0
 have HB:=zm_ (Below.refl w.heap.size w)
 have H : ((laws_szGrammar.f k l0_0 1048576).bind fun t362 => (if t362 < 0 then (some true) else ((laws_szTree.f k l1_0 t362).bind fun t363 => (if t363 < 0 then (some true) else ((laws_toGrammar.f k l0_0).bind fun t364 => ((laws_toTree.f k l1_0).bind fun t367 => ((spec_TreeText.f k t364 t367).bind fun t370 => ((laws_toGrammar.f k l0_0).bind fun t371 => ((laws_toTree.f k l1_0).bind fun t375 => ((impl_TreeText.f k t371 t375).bind fun t379 => (if t379.toList = t370.toList then ((laws_toGrammar.f k l0_0).bind fun t380 => ((laws_eqGrammar.f k t371 t380).bind fun t383 => (if t383 = true then ((laws_toTree.f k l1_0).bind fun t384 => ((laws_eqTree.f k t375 t384).bind fun t387 => (if t387 = true then (some true) else (some false)))) else (some false)))) else (some false)))))))))))) = some r:=h
 clear h
 replace H:=Option.bind_eq_some_iff.mp H
 obtain ⟨t362,A30,H⟩:=H
 replace H : (if t362 < 0 then (some true) else ((laws_szTree.f k l1_0 t362).bind fun t363 => (if t363 < 0 then (some true) else ((laws_toGrammar.f k l0_0).bind fun t364 => ((laws_toTree.f k l1_0).bind fun t367 => ((spec_TreeText.f k t364 t367).bind fun t370 => ((laws_toGrammar.f k l0_0).bind fun t371 => ((laws_toTree.f k l1_0).bind fun t375 => ((impl_TreeText.f k t371 t375).bind fun t379 => (if t379.toList = t370.toList then ((laws_toGrammar.f k l0_0).bind fun t380 => ((laws_eqGrammar.f k t371 t380).bind fun t383 => (if t383 = true then ((laws_toTree.f k l1_0).bind fun t384 => ((laws_eqTree.f k t375 t384).bind fun t387 => (if t387 = true then (some true) else (some false)))) else (some false)))) else (some false))))))))))) = some r:=H
 have A3:=zm_ A30
 clear A30
 by_cases c4 : t362 < 0
 ·rw [if_pos c4] at H
  have c4b0 : decide (t362 < 0) = true:=decide_eq_true c4
  clear c4
  obtain rfl:=Option.some.inj H
  go_enter Try.func3,Try.ntmps3
  go_wp2_with (first|((with_reducible refine gate_dst (N:=2) rfl ?_);refine box_event ?hg (N:=2) ?hd (cs:=#[.slice A0_0 l0_0.length c0_0]) (t:=24) ?hr ?_;(case hd => rfl);(case hg => rfl);(case hr => first|(go_simp;done)|(go_simp;rfl));intro gb360 hg w5 hbox hb;have n0_:=zm_ (below_step zB_ hb);have n1_:=zm_ (hbox);have n2_:=zm_ ((by rw [hg];exact (below_size zB_) : w.heap.size ≤ gb360));have n3_:=zm_ ((by rw [hg];exact (below_size zB_) : w.heap.size ≤ gb360));clear HB;have HB:=n0_;have BK360:=n1_;have GW360:=n2_;have GE360:=n3_;clear n0_ n1_ n2_ n3_;clear hb hbox hg)|((with_reducible refine gate_dst (N:=3) rfl ?_);refine box_event ?hg (N:=3) ?hd (cs:=#[.slice A1_0 l1_0.length c1_0]) (t:=27) ?hr ?_;(case hd => rfl);(case hg => rfl);(case hr => first|(go_simp;done)|(go_simp;rfl));intro gb361 hg w6 hbox hb;have n0_:=zm_ (blk_below (g:=gb360) (o:=.cells #[.slice A0_0 l0_0.length c0_0] 24 (0,0)) (by (with_reducible repeat first|refine zl_ ?_ _|refine zr_ ?_|refine zk_ ?_ _);exact BK360.out) hb);have n1_:=zm_ (below_step (by repeat (first|(with_reducible first|exact HB.out|apply za_|apply zn_|apply zd_|refine zs_ ?_ GE360.out)|exact HB.out)) hb);have n2_:=zm_ (hbox);have n3_:=zm_ ((by rw [hg];exact (below_size (by repeat (first|(with_reducible first|exact HB.out|apply za_|apply zn_|apply zd_|refine zs_ ?_ GE360.out)|exact HB.out))) : w.heap.size ≤ gb361));have n4_:=zm_ ((by rw [hg];exact (below_size (by repeat (first|(with_reducible first|exact HB.out|apply za_|apply zn_|apply zd_|refine zs_ ?_ GE360.out)|exact HB.out))) : w.heap.size ≤ gb361));have n5_:=zm_ ((by rw [hg];exact Nat.ne_of_lt (blk_lt (g:=gb360) (o:=.cells #[.slice A0_0 l0_0.length c0_0] 24 (0,0)) (by (with_reducible repeat first|refine zl_ ?_ _|refine zr_ ?_|refine zk_ ?_ _);exact BK360.out)) : gb360 ≠ gb361));have n6_:=zm_ ((by rw [hg];exact Nat.ne_of_gt (blk_lt (g:=gb360) (o:=.cells #[.slice A0_0 l0_0.length c0_0] 24 (0,0)) (by (with_reducible repeat first|refine zl_ ?_ _|refine zr_ ?_|refine zk_ ?_ _);exact BK360.out)) : gb361 ≠ gb360));clear BK360;clear HB;have BK360:=n0_;have HB:=n1_;have BK361:=n2_;have GW361:=n3_;have GE361:=n4_;have NB360_361:=n5_;have NB361_360:=n6_;clear n0_ n1_ n2_ n3_ n4_ n5_ n6_;clear hb hbox hg;have hnb7:=NB360_361.out;have hnc7:=NB361_360.out;have hcz8_0 : w6.cell? ⟨gb360,0,none⟩ = some (.slice A0_0 l0_0.length c0_0):=(zc_ BK360.out 0).trans rfl;have hfz8_0:=zf_ BK360.out 0)|((with_reducible refine gate_callee (f:=4) rfl ?_);refine goesL_ (some 12) rfl rfl Try.func4 (by kernel_rfl) rfl #[.agg #[.slice A0_0 l0_0.length c0_0],.int .i64 1048576] rfl zq_ ?_;(with_reducible refine (laws_szGrammar.calls k _ _ l0_0 1048576 t362 _ ?side1 ?side2 A3.out).mono ?_);(case side1 => repeat (first|exact (Kd.C_below HR0_0.out HB.out)|(with_reducible refine Kd.C_alloc ?_ _)|(with_reducible refine Kd.C_drewN ?_ _)|(with_reducible refine Kd.C_drew ?_)));(case side2 => exact HC0_0.out);rintro e w9 ⟨rfl,hb⟩;refine ⟨_,rfl,?_⟩;have n0_:=zm_ (blk_below (g:=gb360) (o:=.cells #[.slice A0_0 l0_0.length c0_0] 24 (0,0)) (by (with_reducible repeat first|refine zl_ ?_ _|refine zr_ ?_|refine zk_ ?_ _);exact BK360.out) hb);have n1_:=zm_ (blk_below (g:=gb361) (o:=.cells #[.slice A1_0 l1_0.length c1_0] 27 (0,0)) (by (with_reducible repeat first|refine zl_ ?_ _|refine zr_ ?_|refine zk_ ?_ _);exact BK361.out) hb);have n2_:=zm_ (below_step (by repeat (first|(with_reducible first|exact HB.out|apply za_|apply zn_|apply zd_|refine zs_ ?_ GE360.out|refine zs_ ?_ GE361.out)|exact HB.out)) hb);clear BK360;clear BK361;clear HB;have BK360:=n0_;have BK361:=n1_;have HB:=n2_;clear n0_ n1_ n2_;(try clear hb)))
  go_ret
  exact ⟨zE_,by repeat (first|(with_reducible first|exact HB.out|apply za_|apply zn_|apply zd_|refine zs_ ?_ GE360.out|refine zs_ ?_ GE361.out)|exact HB.out)⟩
 ·rw [if_neg c4] at H
  have c4b0 : decide (t362 < 0) = false:=decide_eq_false c4
  clear c4
  replace H:=Option.bind_eq_some_iff.mp H
  obtain ⟨t363,A100,H⟩:=H
  replace H : (if t363 < 0 then (some true) else ((laws_toGrammar.f k l0_0).bind fun t364 => ((laws_toTree.f k l1_0).bind fun t367 => ((spec_TreeText.f k t364 t367).bind fun t370 => ((laws_toGrammar.f k l0_0).bind fun t371 => ((laws_toTree.f k l1_0).bind fun t375 => ((impl_TreeText.f k t371 t375).bind fun t379 => (if t379.toList = t370.toList then ((laws_toGrammar.f k l0_0).bind fun t380 => ((laws_eqGrammar.f k t371 t380).bind fun t383 => (if t383 = true then ((laws_toTree.f k l1_0).bind fun t384 => ((laws_eqTree.f k t375 t384).bind fun t387 => (if t387 = true then (some true) else (some false)))) else (some false)))) else (some false))))))))) = some r:=H
  have A10:=zm_ A100
  clear A100
  by_cases c11 : t363 < 0
  ·rw [if_pos c11] at H
   have c11b0 : decide (t363 < 0) = true:=decide_eq_true c11
   clear c11
   obtain rfl:=Option.some.inj H
   go_enter Try.func3,Try.ntmps3
   go_wp2_with (first|((with_reducible refine gate_dst (N:=2) rfl ?_);refine box_event ?hg (N:=2) ?hd (cs:=#[.slice A0_0 l0_0.length c0_0]) (t:=24) ?hr ?_;(case hd => rfl);(case hg => rfl);(case hr => first|(go_simp;done)|(go_simp;rfl));intro gb360 hg w12 hbox hb;have n0_:=zm_ (below_step zB_ hb);have n1_:=zm_ (hbox);have n2_:=zm_ ((by rw [hg];exact (below_size zB_) : w.heap.size ≤ gb360));have n3_:=zm_ ((by rw [hg];exact (below_size zB_) : w.heap.size ≤ gb360));clear HB;have HB:=n0_;have BK360:=n1_;have GW360:=n2_;have GE360:=n3_;clear n0_ n1_ n2_ n3_;clear hb hbox hg)|((with_reducible refine gate_dst (N:=3) rfl ?_);refine box_event ?hg (N:=3) ?hd (cs:=#[.slice A1_0 l1_0.length c1_0]) (t:=27) ?hr ?_;(case hd => rfl);(case hg => rfl);(case hr => first|(go_simp;done)|(go_simp;rfl));intro gb361 hg w13 hbox hb;have n0_:=zm_ (blk_below (g:=gb360) (o:=.cells #[.slice A0_0 l0_0.length c0_0] 24 (0,0)) (by (with_reducible repeat first|refine zl_ ?_ _|refine zr_ ?_|refine zk_ ?_ _);exact BK360.out) hb);have n1_:=zm_ (below_step (by repeat (first|(with_reducible first|exact HB.out|apply za_|apply zn_|apply zd_|refine zs_ ?_ GE360.out)|exact HB.out)) hb);have n2_:=zm_ (hbox);have n3_:=zm_ ((by rw [hg];exact (below_size (by repeat (first|(with_reducible first|exact HB.out|apply za_|apply zn_|apply zd_|refine zs_ ?_ GE360.out)|exact HB.out))) : w.heap.size ≤ gb361));have n4_:=zm_ ((by rw [hg];exact (below_size (by repeat (first|(with_reducible first|exact HB.out|apply za_|apply zn_|apply zd_|refine zs_ ?_ GE360.out)|exact HB.out))) : w.heap.size ≤ gb361));have n5_:=zm_ ((by rw [hg];exact Nat.ne_of_lt (blk_lt (g:=gb360) (o:=.cells #[.slice A0_0 l0_0.length c0_0] 24 (0,0)) (by (with_reducible repeat first|refine zl_ ?_ _|refine zr_ ?_|refine zk_ ?_ _);exact BK360.out)) : gb360 ≠ gb361));have n6_:=zm_ ((by rw [hg];exact Nat.ne_of_gt (blk_lt (g:=gb360) (o:=.cells #[.slice A0_0 l0_0.length c0_0] 24 (0,0)) (by (with_reducible repeat first|refine zl_ ?_ _|refine zr_ ?_|refine zk_ ?_ _);exact BK360.out)) : gb361 ≠ gb360));clear BK360;clear HB;have BK360:=n0_;have HB:=n1_;have BK361:=n2_;have GW361:=n3_;have GE361:=n4_;have NB360_361:=n5_;have NB361_360:=n6_;clear n0_ n1_ n2_ n3_ n4_ n5_ n6_;clear hb hbox hg;have hnb14:=NB360_361.out;have hnc14:=NB361_360.out;have hcz15_0 : w13.cell? ⟨gb360,0,none⟩ = some (.slice A0_0 l0_0.length c0_0):=(zc_ BK360.out 0).trans rfl;have hfz15_0:=zf_ BK360.out 0)|((with_reducible refine gate_callee (f:=4) rfl ?_);refine goesL_ (some 12) rfl rfl Try.func4 (by kernel_rfl) rfl #[.agg #[.slice A0_0 l0_0.length c0_0],.int .i64 1048576] rfl zq_ ?_;(with_reducible refine (laws_szGrammar.calls k _ _ l0_0 1048576 t362 _ ?side1 ?side2 A3.out).mono ?_);(case side1 => repeat (first|exact (Kd.C_below HR0_0.out HB.out)|(with_reducible refine Kd.C_alloc ?_ _)|(with_reducible refine Kd.C_drewN ?_ _)|(with_reducible refine Kd.C_drew ?_)));(case side2 => exact HC0_0.out);rintro e w16 ⟨rfl,hb⟩;refine ⟨_,rfl,?_⟩;have n0_:=zm_ (blk_below (g:=gb360) (o:=.cells #[.slice A0_0 l0_0.length c0_0] 24 (0,0)) (by (with_reducible repeat first|refine zl_ ?_ _|refine zr_ ?_|refine zk_ ?_ _);exact BK360.out) hb);have n1_:=zm_ (blk_below (g:=gb361) (o:=.cells #[.slice A1_0 l1_0.length c1_0] 27 (0,0)) (by (with_reducible repeat first|refine zl_ ?_ _|refine zr_ ?_|refine zk_ ?_ _);exact BK361.out) hb);have n2_:=zm_ (below_step (by repeat (first|(with_reducible first|exact HB.out|apply za_|apply zn_|apply zd_|refine zs_ ?_ GE360.out|refine zs_ ?_ GE361.out)|exact HB.out)) hb);clear BK360;clear BK361;clear HB;have BK360:=n0_;have BK361:=n1_;have HB:=n2_;clear n0_ n1_ n2_;(try clear hb);have hcz17_0 : w16.cell? ⟨gb361,0,none⟩ = some (.slice A1_0 l1_0.length c1_0):=(zc_ BK361.out 0).trans rfl;have hfz17_0:=zf_ BK361.out 0)|((with_reducible refine gate_callee (f:=5) rfl ?_);refine goesL_ (some 17) rfl rfl Try.func5 (by kernel_rfl) rfl #[.agg #[.slice A1_0 l1_0.length c1_0],.int .i64 t362] rfl zq_ ?_;(with_reducible refine (laws_szTree.calls k _ _ l1_0 t362 t363 _ ?side1 ?side2 A10.out).mono ?_);(case side1 => repeat (first|exact (Kd.C_below HR1_0.out HB.out)|(with_reducible refine Kd.C_alloc ?_ _)|(with_reducible refine Kd.C_drewN ?_ _)|(with_reducible refine Kd.C_drew ?_)));(case side2 => exact HC1_0.out);rintro e w18 ⟨rfl,hb⟩;refine ⟨_,rfl,?_⟩;have n0_:=zm_ (blk_below (g:=gb360) (o:=.cells #[.slice A0_0 l0_0.length c0_0] 24 (0,0)) (by (with_reducible repeat first|refine zl_ ?_ _|refine zr_ ?_|refine zk_ ?_ _);exact BK360.out) hb);have n1_:=zm_ (blk_below (g:=gb361) (o:=.cells #[.slice A1_0 l1_0.length c1_0] 27 (0,0)) (by (with_reducible repeat first|refine zl_ ?_ _|refine zr_ ?_|refine zk_ ?_ _);exact BK361.out) hb);have n2_:=zm_ (below_step (by repeat (first|(with_reducible first|exact HB.out|apply za_|apply zn_|apply zd_|refine zs_ ?_ GE360.out|refine zs_ ?_ GE361.out)|exact HB.out)) hb);clear BK360;clear BK361;clear HB;have BK360:=n0_;have BK361:=n1_;have HB:=n2_;clear n0_ n1_ n2_;(try clear hb)))
   go_ret
   exact ⟨zE_,by repeat (first|(with_reducible first|exact HB.out|apply za_|apply zn_|apply zd_|refine zs_ ?_ GE360.out|refine zs_ ?_ GE361.out)|exact HB.out)⟩
  ·rw [if_neg c11] at H
   have c11b0 : decide (t363 < 0) = false:=decide_eq_false c11
   clear c11
   replace H:=Option.bind_eq_some_iff.mp H
   obtain ⟨t364,A190,H⟩:=H
   replace H : ((laws_toTree.f k l1_0).bind fun t367 => ((spec_TreeText.f k t364 t367).bind fun t370 => ((laws_toGrammar.f k l0_0).bind fun t371 => ((laws_toTree.f k l1_0).bind fun t375 => ((impl_TreeText.f k t371 t375).bind fun t379 => (if t379.toList = t370.toList then ((laws_toGrammar.f k l0_0).bind fun t380 => ((laws_eqGrammar.f k t371 t380).bind fun t383 => (if t383 = true then ((laws_toTree.f k l1_0).bind fun t384 => ((laws_eqTree.f k t375 t384).bind fun t387 => (if t387 = true then (some true) else (some false)))) else (some false)))) else (some false))))))) = some r:=H
   have A19:=zm_ A190
   clear A190
   replace H:=Option.bind_eq_some_iff.mp H
   obtain ⟨t367,A200,H⟩:=H
   replace H : ((spec_TreeText.f k t364 t367).bind fun t370 => ((laws_toGrammar.f k l0_0).bind fun t371 => ((laws_toTree.f k l1_0).bind fun t375 => ((impl_TreeText.f k t371 t375).bind fun t379 => (if t379.toList = t370.toList then ((laws_toGrammar.f k l0_0).bind fun t380 => ((laws_eqGrammar.f k t371 t380).bind fun t383 => (if t383 = true then ((laws_toTree.f k l1_0).bind fun t384 => ((laws_eqTree.f k t375 t384).bind fun t387 => (if t387 = true then (some true) else (some false)))) else (some false)))) else (some false)))))) = some r:=H
   have A20:=zm_ A200
   clear A200
   replace H:=Option.bind_eq_some_iff.mp H
   obtain ⟨t370,A210,H⟩:=H
   replace H : ((laws_toGrammar.f k l0_0).bind fun t371 => ((laws_toTree.f k l1_0).bind fun t375 => ((impl_TreeText.f k t371 t375).bind fun t379 => (if t379.toList = t370.toList then ((laws_toGrammar.f k l0_0).bind fun t380 => ((laws_eqGrammar.f k t371 t380).bind fun t383 => (if t383 = true then ((laws_toTree.f k l1_0).bind fun t384 => ((laws_eqTree.f k t375 t384).bind fun t387 => (if t387 = true then (some true) else (some false)))) else (some false)))) else (some false))))) = some r:=H
   have A21:=zm_ A210
   clear A210
   replace H:=Option.bind_eq_some_iff.mp H
   obtain ⟨t371,A220,H⟩:=H
   replace H : ((laws_toTree.f k l1_0).bind fun t375 => ((impl_TreeText.f k t371 t375).bind fun t379 => (if t379.toList = t370.toList then ((laws_toGrammar.f k l0_0).bind fun t380 => ((laws_eqGrammar.f k t371 t380).bind fun t383 => (if t383 = true then ((laws_toTree.f k l1_0).bind fun t384 => ((laws_eqTree.f k t375 t384).bind fun t387 => (if t387 = true then (some true) else (some false)))) else (some false)))) else (some false)))) = some r:=H
   have A22:=zm_ A220
   clear A220
   replace H:=Option.bind_eq_some_iff.mp H
   obtain ⟨t375,A230,H⟩:=H
   replace H : ((impl_TreeText.f k t371 t375).bind fun t379 => (if t379.toList = t370.toList then ((laws_toGrammar.f k l0_0).bind fun t380 => ((laws_eqGrammar.f k t371 t380).bind fun t383 => (if t383 = true then ((laws_toTree.f k l1_0).bind fun t384 => ((laws_eqTree.f k t375 t384).bind fun t387 => (if t387 = true then (some true) else (some false)))) else (some false)))) else (some false))) = some r:=H
   have A23:=zm_ A230
   clear A230
   replace H:=Option.bind_eq_some_iff.mp H
   obtain ⟨t379,A240,H⟩:=H
   replace H : (if t379.toList = t370.toList then ((laws_toGrammar.f k l0_0).bind fun t380 => ((laws_eqGrammar.f k t371 t380).bind fun t383 => (if t383 = true then ((laws_toTree.f k l1_0).bind fun t384 => ((laws_eqTree.f k t375 t384).bind fun t387 => (if t387 = true then (some true) else (some false)))) else (some false)))) else (some false)) = some r:=H
   have A24:=zm_ A240
   clear A240
   by_cases c25 : t379.toList = t370.toList
   ·rw [if_pos c25] at H
    have c25b0 : (t379.toList == t370.toList) = true:=beq_iff_eq.mpr c25
    have c25b1 : (t379.toList != t370.toList) = false:=bne_eq_false_iff_eq.mpr c25
    clear c25
    replace H:=Option.bind_eq_some_iff.mp H
    obtain ⟨t380,A260,H⟩:=H
    replace H : ((laws_eqGrammar.f k t371 t380).bind fun t383 => (if t383 = true then ((laws_toTree.f k l1_0).bind fun t384 => ((laws_eqTree.f k t375 t384).bind fun t387 => (if t387 = true then (some true) else (some false)))) else (some false))) = some r:=H
    have A26:=zm_ A260
    clear A260
    replace H:=Option.bind_eq_some_iff.mp H
    obtain ⟨t383,A270,H⟩:=H
    replace H : (if t383 = true then ((laws_toTree.f k l1_0).bind fun t384 => ((laws_eqTree.f k t375 t384).bind fun t387 => (if t387 = true then (some true) else (some false)))) else (some false)) = some r:=H
    have A27:=zm_ A270
    clear A270
    by_cases c28 : t383 = true
    ·subst c28
     have H1 : ((laws_toTree.f k l1_0).bind fun t384 => ((laws_eqTree.f k t375 t384).bind fun t387 => (if t387 = true then (some true) else (some false)))) = some r:=by rw [if_pos rfl] at H;exact H
     clear H
     have H:=H1
     clear H1
     replace H:=Option.bind_eq_some_iff.mp H
     obtain ⟨t384,A290,H⟩:=H
     replace H : ((laws_eqTree.f k t375 t384).bind fun t387 => (if t387 = true then (some true) else (some false))) = some r:=H
     have A29:=zm_ A290
     clear A290
     replace H:=Option.bind_eq_some_iff.mp H
     obtain ⟨t387,A300,H⟩:=H
     replace H : (if t387 = true then (some true) else (some false)) = some r:=H
     have A30:=zm_ A300
     clear A300
     by_cases c31 : t387 = true
     ·subst c31
      have H1 : (some true) = some r:=by rw [if_pos rfl] at H;exact H
      clear H
      have H:=H1
      clear H1
      obtain rfl:=Option.some.inj H
      go_enter Try.func3,Try.ntmps3
      try go_wp2_with (first|((with_reducible refine gate_dst (N:=2) rfl ?_);refine box_event ?hg (N:=2) ?hd (cs:=#[.slice A0_0 l0_0.length c0_0]) (t:=24) ?hr ?_;(case hd => rfl);(case hg => rfl);(case hr => first|(go_simp;done)|(go_simp;rfl));intro gb360 hg w32 hbox hb;have n0_:=zm_ (below_step zB_ hb);have n1_:=zm_ (hbox);have n2_:=zm_ ((by rw [hg];exact (below_size zB_) : w.heap.size ≤ gb360));have n3_:=zm_ ((by rw [hg];exact (below_size zB_) : w.heap.size ≤ gb360));clear HB;have HB:=n0_;have BK360:=n1_;have GW360:=n2_;have GE360:=n3_;clear n0_ n1_ n2_ n3_;clear hb hbox hg)|((with_reducible refine gate_dst (N:=3) rfl ?_);refine box_event ?hg (N:=3) ?hd (cs:=#[.slice A1_0 l1_0.length c1_0]) (t:=27) ?hr ?_;(case hd => rfl);(case hg => rfl);(case hr => first|(go_simp;done)|(go_simp;rfl));intro gb361 hg w33 hbox hb;have n0_:=zm_ (blk_below (g:=gb360) (o:=.cells #[.slice A0_0 l0_0.length c0_0] 24 (0,0)) (by (with_reducible repeat first|refine zl_ ?_ _|refine zr_ ?_|refine zk_ ?_ _);exact BK360.out) hb);have n1_:=zm_ (below_step (by repeat (first|(with_reducible first|exact HB.out|apply za_|apply zn_|apply zd_|refine zs_ ?_ GE360.out)|exact HB.out)) hb);have n2_:=zm_ (hbox);have n3_:=zm_ ((by rw [hg];exact (below_size (by repeat (first|(with_reducible first|exact HB.out|apply za_|apply zn_|apply zd_|refine zs_ ?_ GE360.out)|exact HB.out))) : w.heap.size ≤ gb361));have n4_:=zm_ ((by rw [hg];exact (below_size (by repeat (first|(with_reducible first|exact HB.out|apply za_|apply zn_|apply zd_|refine zs_ ?_ GE360.out)|exact HB.out))) : w.heap.size ≤ gb361));have n5_:=zm_ ((by rw [hg];exact Nat.ne_of_lt (blk_lt (g:=gb360) (o:=.cells #[.slice A0_0 l0_0.length c0_0] 24 (0,0)) (by (with_reducible repeat first|refine zl_ ?_ _|refine zr_ ?_|refine zk_ ?_ _);exact BK360.out)) : gb360 ≠ gb361));have n6_:=zm_ ((by rw [hg];exact Nat.ne_of_gt (blk_lt (g:=gb360) (o:=.cells #[.slice A0_0 l0_0.length c0_0] 24 (0,0)) (by (with_reducible repeat first|refine zl_ ?_ _|refine zr_ ?_|refine zk_ ?_ _);exact BK360.out)) : gb361 ≠ gb360));clear BK360;clear HB;have BK360:=n0_;have HB:=n1_;have BK361:=n2_;have GW361:=n3_;have GE361:=n4_;have NB360_361:=n5_;have NB361_360:=n6_;clear n0_ n1_ n2_ n3_ n4_ n5_ n6_;clear hb hbox hg;have hnb34:=NB360_361.out;have hnc34:=NB361_360.out;have hcz35_0 : w33.cell? ⟨gb360,0,none⟩ = some (.slice A0_0 l0_0.length c0_0):=(zc_ BK360.out 0).trans rfl;have hfz35_0:=zf_ BK360.out 0)|((with_reducible refine gate_callee (f:=4) rfl ?_);refine goesL_ (some 12) rfl rfl Try.func4 (by kernel_rfl) rfl #[.agg #[.slice A0_0 l0_0.length c0_0],.int .i64 1048576] rfl zq_ ?_;(with_reducible refine (laws_szGrammar.calls k _ _ l0_0 1048576 t362 _ ?side1 ?side2 A3.out).mono ?_);(case side1 => repeat (first|exact (Kd.C_below HR0_0.out HB.out)|(with_reducible refine Kd.C_alloc ?_ _)|(with_reducible refine Kd.C_drewN ?_ _)|(with_reducible refine Kd.C_drew ?_)));(case side2 => exact HC0_0.out);rintro e w36 ⟨rfl,hb⟩;refine ⟨_,rfl,?_⟩;have n0_:=zm_ (blk_below (g:=gb360) (o:=.cells #[.slice A0_0 l0_0.length c0_0] 24 (0,0)) (by (with_reducible repeat first|refine zl_ ?_ _|refine zr_ ?_|refine zk_ ?_ _);exact BK360.out) hb);have n1_:=zm_ (blk_below (g:=gb361) (o:=.cells #[.slice A1_0 l1_0.length c1_0] 27 (0,0)) (by (with_reducible repeat first|refine zl_ ?_ _|refine zr_ ?_|refine zk_ ?_ _);exact BK361.out) hb);have n2_:=zm_ (below_step (by repeat (first|(with_reducible first|exact HB.out|apply za_|apply zn_|apply zd_|refine zs_ ?_ GE360.out|refine zs_ ?_ GE361.out)|exact HB.out)) hb);clear BK360;clear BK361;clear HB;have BK360:=n0_;have BK361:=n1_;have HB:=n2_;clear n0_ n1_ n2_;(try clear hb);have hcz37_0 : w36.cell? ⟨gb361,0,none⟩ = some (.slice A1_0 l1_0.length c1_0):=(zc_ BK361.out 0).trans rfl;have hfz37_0:=zf_ BK361.out 0)|((with_reducible refine gate_callee (f:=5) rfl ?_);refine goesL_ (some 17) rfl rfl Try.func5 (by kernel_rfl) rfl #[.agg #[.slice A1_0 l1_0.length c1_0],.int .i64 t362] rfl zq_ ?_;(with_reducible refine (laws_szTree.calls k _ _ l1_0 t362 t363 _ ?side1 ?side2 A10.out).mono ?_);(case side1 => repeat (first|exact (Kd.C_below HR1_0.out HB.out)|(with_reducible refine Kd.C_alloc ?_ _)|(with_reducible refine Kd.C_drewN ?_ _)|(with_reducible refine Kd.C_drew ?_)));(case side2 => exact HC1_0.out);rintro e w38 ⟨rfl,hb⟩;refine ⟨_,rfl,?_⟩;have n0_:=zm_ (blk_below (g:=gb360) (o:=.cells #[.slice A0_0 l0_0.length c0_0] 24 (0,0)) (by (with_reducible repeat first|refine zl_ ?_ _|refine zr_ ?_|refine zk_ ?_ _);exact BK360.out) hb);have n1_:=zm_ (blk_below (g:=gb361) (o:=.cells #[.slice A1_0 l1_0.length c1_0] 27 (0,0)) (by (with_reducible repeat first|refine zl_ ?_ _|refine zr_ ?_|refine zk_ ?_ _);exact BK361.out) hb);have n2_:=zm_ (below_step (by repeat (first|(with_reducible first|exact HB.out|apply za_|apply zn_|apply zd_|refine zs_ ?_ GE360.out|refine zs_ ?_ GE361.out)|exact HB.out)) hb);clear BK360;clear BK361;clear HB;have BK360:=n0_;have BK361:=n1_;have HB:=n2_;clear n0_ n1_ n2_;(try clear hb)))
      have n0_:=zm_ (zr_ BK360.out)
      have n1_:=zm_ (zr_ BK361.out)
      have n2_:=zm_ (zd_ HB.out)
      clear BK360
      clear BK361
      clear HB
      have BK360:=n0_
      have BK361:=n1_
      have HB:=n2_
      clear n0_ n1_ n2_
      refine start_ (n:=6) (S:=fun w' => w'.cell? ⟨gb360,0,none⟩ = some (.slice A0_0 l0_0.length c0_0) ∧ w'.cell? ⟨gb361,0,none⟩ = some (.slice A1_0 l1_0.length c1_0)) (ds:=[]) #[false,false,false,false,false,false] (by kernel_rfl) rfl rfl ⟨(zc_ BK360.out 0).trans rfl,(zc_ BK361.out 0).trans rfl⟩ (fun hHeld => ?_)
      generalize w38.drew = w39 at BK360 BK361 HB hHeld ⊢
      refine take_ (i:=0) (N:=some 20) (v:=?_) (a':=?_) #[true,false,false,false,false,false] rfl rfl (by kernel_rfl) (fun _ _ _ h => h) (Or.inl ⟨by rfl,?_⟩) hHeld ?_ ?_
      rotate_left
      ·rintro w' ⟨s0,s1⟩
       go_simp
       with_reducible rfl
      rotate_left
      ·simp only [Act.put,List.setIfInBounds_toArray,List.set_cons_zero,List.set_cons_succ,i64_w,i32_w,IntKind.wrap_u8]
       rfl
      refine take_ (i:=2) (N:=some 22) (v:=?_) (a':=?_) #[true,false,true,false,false,false] rfl rfl (by kernel_rfl) (fun _ _ _ h => h) (Or.inl ⟨by rfl,?_⟩) hHeld ?_ ?_
      rotate_left
      ·rintro w' ⟨s0,s1⟩
       go_simp
       with_reducible rfl
      rotate_left
      ·simp only [Act.put,List.setIfInBounds_toArray,List.set_cons_zero,List.set_cons_succ,i64_w,i32_w,IntKind.wrap_u8]
       rfl
      refine one_ (i:=1) (N:=some 21) #[true,true,true,false,false,false] rfl rfl (by kernel_rfl) (by decide) (fun K hK => ?_)
      refine goes_ Try.func7 (by kernel_rfl) rfl #[.agg #[.slice A0_0 l0_0.length c0_0]] (by rfl) rfl rfl zq_ ?_
      with_reducible refine (laws_toGrammar.calls k _ _ l0_0 t364 _ ?side1 ?side2 A19.out).mono ?_
      (case side1 => repeat (first|exact (Kd.C_below HR0_0.out HB.out)|(with_reducible refine Kd.C_alloc ?_ _)|(with_reducible refine Kd.C_drewN ?_ _)|(with_reducible refine Kd.C_drew ?_)))
      (case side2 => exact HC0_0.out)
      rintro e w40 ⟨v365,rfl,ho0,hb⟩
      refine ⟨_,rfl,?_⟩
      have n0_:=zm_ (Kd.R_lower ho0 (below_size (by repeat (first|(with_reducible first|exact HB.out|apply za_|apply zn_|apply zd_|refine zs_ ?_ GE360.out|refine zs_ ?_ GE361.out)|exact HB.out))))
      have n1_:=zm_ (blk_below (g:=gb360) (o:=.cells #[.slice A0_0 l0_0.length c0_0] 24 (0,0)) (by (with_reducible repeat first|refine zl_ ?_ _|refine zr_ ?_|refine zk_ ?_ _);exact BK360.out) hb)
      have n2_:=zm_ (blk_below (g:=gb361) (o:=.cells #[.slice A1_0 l1_0.length c1_0] 27 (0,0)) (by (with_reducible repeat first|refine zl_ ?_ _|refine zr_ ?_|refine zk_ ?_ _);exact BK361.out) hb)
      have n3_:=zm_ (below_step (by repeat (first|(with_reducible first|exact HB.out|apply za_|apply zn_|apply zd_|refine zs_ ?_ GE360.out|refine zs_ ?_ GE361.out)|exact HB.out)) hb)
      clear BK360
      clear BK361
      clear HB
      have HO366:=n0_
      have BK360:=n1_
      have BK361:=n2_
      have HB:=n3_
      clear n0_ n1_ n2_ n3_
      (try clear hb)
      (try clear hb2)
      (try clear hk)
      (try clear hi)
      (try clear ho0)
      refine hK.out _ _ ⟨(zc_ BK360.out 0).trans rfl,(zc_ BK361.out 0).trans rfl⟩ (fun hHeld => ?_)
      clear hK K
      refine norm_ (a':=?_) ?_ ?_
      rotate_left
      ·show Act.put _ (some 21) _ = _
       simp only [Act.put,List.setIfInBounds_toArray,List.set_cons_zero,List.set_cons_succ,i64_w,i32_w,IntKind.wrap_u8]
       rfl
      refine one_ (i:=3) (N:=some 23) #[true,true,true,true,false,false] rfl rfl (by kernel_rfl) (by decide) (fun K hK => ?_)
      refine goes_ Try.func8 (by kernel_rfl) rfl #[.agg #[.slice A1_0 l1_0.length c1_0]] (by rfl) rfl rfl zq_ ?_
      with_reducible refine (laws_toTree.calls k _ _ l1_0 t367 _ ?side1 ?side2 A20.out).mono ?_
      (case side1 => repeat (first|exact (Kd.C_below HR1_0.out HB.out)|(with_reducible refine Kd.C_alloc ?_ _)|(with_reducible refine Kd.C_drewN ?_ _)|(with_reducible refine Kd.C_drew ?_)))
      (case side2 => exact HC1_0.out)
      rintro e w41 ⟨v368,rfl,ho0,hb⟩
      refine ⟨_,rfl,?_⟩
      have n0_:=zm_ (Kd.R_below (by (with_reducible repeat (first|apply Kd.R_alloc|apply Kd.R_drewN|apply Kd.R_drew));exact HO366.out) hb)
      have n1_:=zm_ (Kd.S_lower ho0 (below_size (by repeat (first|(with_reducible first|exact HB.out|apply za_|apply zn_|apply zd_|refine zs_ ?_ GE360.out|refine zs_ ?_ GE361.out)|exact HB.out))))
      have n2_:=zm_ (blk_below (g:=gb360) (o:=.cells #[.slice A0_0 l0_0.length c0_0] 24 (0,0)) (by (with_reducible repeat first|refine zl_ ?_ _|refine zr_ ?_|refine zk_ ?_ _);exact BK360.out) hb)
      have n3_:=zm_ (blk_below (g:=gb361) (o:=.cells #[.slice A1_0 l1_0.length c1_0] 27 (0,0)) (by (with_reducible repeat first|refine zl_ ?_ _|refine zr_ ?_|refine zk_ ?_ _);exact BK361.out) hb)
      have n4_:=zm_ (below_step (by repeat (first|(with_reducible first|exact HB.out|apply za_|apply zn_|apply zd_|refine zs_ ?_ GE360.out|refine zs_ ?_ GE361.out)|exact HB.out)) hb)
      clear HO366
      clear BK360
      clear BK361
      clear HB
      have HO366:=n0_
      have HO369:=n1_
      have BK360:=n2_
      have BK361:=n3_
      have HB:=n4_
      clear n0_ n1_ n2_ n3_ n4_
      (try clear hb)
      (try clear hb2)
      (try clear hk)
      (try clear hi)
      (try clear ho0)
      obtain ⟨Ao42,co42,eo42⟩:=Kd.R_slice HO366.out
      (first|subst eo42|(injection eo42 with f1_ f2_ f3_;have f4_:=f1_.symm;have f5_:=f3_.symm;clear f1_ f2_ f3_;subst f4_;subst f5_))
      obtain ⟨Ao43,co43,eo43⟩:=Kd.S_slice HO369.out
      (first|subst eo43|(injection eo43 with f1_ f2_ f3_;have f4_:=f1_.symm;have f5_:=f3_.symm;clear f1_ f2_ f3_;subst f4_;subst f5_))
      refine hK.out _ _ ⟨(zc_ BK360.out 0).trans rfl,(zc_ BK361.out 0).trans rfl⟩ (fun hHeld => ?_)
      clear hK K
      refine norm_ (a':=?_) ?_ ?_
      rotate_left
      ·show Act.put _ (some 23) _ = _
       simp only [Act.put,List.setIfInBounds_toArray,List.set_cons_zero,List.set_cons_succ,i64_w,i32_w,IntKind.wrap_u8]
       rfl
      refine one_ (i:=4) (N:=some 24) #[true,true,true,true,true,false] rfl rfl (by kernel_rfl) (by decide) (fun K hK => ?_)
      refine goes_ Try.func6 (by kernel_rfl) rfl #[.agg #[.slice Ao42 t364.length co42],.agg #[.slice Ao43 t367.length co43]] (by rfl) rfl rfl zq_ ?_
      with_reducible refine (spec_TreeText.calls k _ _ t364 _ _ t367 t370 _ ?side1 ?side2 ?side3 ?side4 A21.out).mono ?_
      (case side1 => repeat (first|exact (Kd.R_reads' HO366.out).2.2|(with_reducible refine Kd.C_alloc ?_ _)|(with_reducible refine Kd.C_drewN ?_ _)|(with_reducible refine Kd.C_drew ?_)))
      (case side2 => exact (Kd.R_reads' HO366.out).2.1)
      (case side3 => repeat (first|exact (Kd.S_reads' HO369.out).2.2|(with_reducible refine Kd.C_alloc ?_ _)|(with_reducible refine Kd.C_drewN ?_ _)|(with_reducible refine Kd.C_drew ?_)))
      (case side4 => exact (Kd.S_reads' HO369.out).2.1)
      rintro e w44 ⟨rfl,hb⟩
      refine ⟨_,rfl,?_⟩
      have n0_:=zm_ (Kd.R_below (by (with_reducible repeat (first|apply Kd.R_alloc|apply Kd.R_drewN|apply Kd.R_drew));exact HO366.out) hb)
      have n1_:=zm_ (Kd.S_below (by (with_reducible repeat (first|apply Kd.S_alloc|apply Kd.S_drewN|apply Kd.S_drew));exact HO369.out) hb)
      have n2_:=zm_ (blk_below (g:=gb360) (o:=.cells #[.slice A0_0 l0_0.length c0_0] 24 (0,0)) (by (with_reducible repeat first|refine zl_ ?_ _|refine zr_ ?_|refine zk_ ?_ _);exact BK360.out) hb)
      have n3_:=zm_ (blk_below (g:=gb361) (o:=.cells #[.slice A1_0 l1_0.length c1_0] 27 (0,0)) (by (with_reducible repeat first|refine zl_ ?_ _|refine zr_ ?_|refine zk_ ?_ _);exact BK361.out) hb)
      have n4_:=zm_ (below_step (by repeat (first|(with_reducible first|exact HB.out|apply za_|apply zn_|apply zd_|refine zs_ ?_ GE360.out|refine zs_ ?_ GE361.out)|exact HB.out)) hb)
      clear HO366
      clear HO369
      clear BK360
      clear BK361
      clear HB
      have HO366:=n0_
      have HO369:=n1_
      have BK360:=n2_
      have BK361:=n3_
      have HB:=n4_
      clear n0_ n1_ n2_ n3_ n4_
      (try clear hb)
      (try clear hb2)
      (try clear hk)
      (try clear hi)
      refine hK.out _ _ ⟨(zc_ BK360.out 0).trans rfl,(zc_ BK361.out 0).trans rfl⟩ (fun hHeld => ?_)
      clear hK K
      refine norm_ (a':=?_) ?_ ?_
      rotate_left
      ·show Act.put _ (some 24) _ = _
       simp only [Act.put,List.setIfInBounds_toArray,List.set_cons_zero,List.set_cons_succ,i64_w,i32_w,IntKind.wrap_u8]
       rfl
      refine pure_ (i:=5) (N:=some 6) (v:=?_) (a':=?_) #[true,true,true,true,true,true] rfl rfl (by kernel_rfl) (fun _ _ _ h => h) (Or.inl ⟨by rfl,?_⟩) ?_ ?_
      rotate_left
      ·intro w'
       go_simp
       with_reducible rfl
      rotate_left
      ·simp only [Act.put,List.setIfInBounds_toArray,List.set_cons_zero,List.set_cons_succ,i64_w,i32_w,IntKind.wrap_u8]
       rfl
      refine done_ (by kernel_rfl) ?_
      have hcz45_0 : w44.cell? ⟨gb360,0,none⟩ = some (.slice A0_0 l0_0.length c0_0):=(zc_ BK360.out 0).trans rfl
      have hfz45_0:=zf_ BK360.out 0
      try go_wp2_with (first|((with_reducible refine gate_callee (f:=7) rfl ?_);refine goesL_ (some 26) rfl rfl Try.func7 (by kernel_rfl) rfl #[.agg #[.slice A0_0 l0_0.length c0_0]] rfl zq_ ?_;(with_reducible refine (laws_toGrammar.calls k _ _ l0_0 t371 _ ?side1 ?side2 A22.out).mono ?_);(case side1 => repeat (first|exact (Kd.C_below HR0_0.out HB.out)|(with_reducible refine Kd.C_alloc ?_ _)|(with_reducible refine Kd.C_drewN ?_ _)|(with_reducible refine Kd.C_drew ?_)));(case side2 => exact HC0_0.out);rintro e w46 ⟨v372,rfl,ho0,hb⟩;refine ⟨_,rfl,?_⟩;have n0_:=zm_ (Kd.R_elder' (by (with_reducible repeat (first|apply Kd.R_alloc|apply Kd.R_drewN|apply Kd.R_drew));exact HO366.out) (Kd.R_base ho0) hb);have n1_:=zm_ (Kd.S_below (by (with_reducible repeat (first|apply Kd.S_alloc|apply Kd.S_drewN|apply Kd.S_drew));exact HO369.out) hb);have n2_:=zm_ (Kd.R_lower (Kd.R_new' ho0 (Kd.R_lt (by (with_reducible repeat (first|apply Kd.R_alloc|apply Kd.R_drewN|apply Kd.R_drew));exact HO366.out))) (below_size (by repeat (first|(with_reducible first|exact HB.out|apply za_|apply zn_|apply zd_|refine zs_ ?_ GE360.out|refine zs_ ?_ GE361.out)|exact HB.out))));have n3_:=zm_ (blk_below (g:=gb360) (o:=.cells #[.slice A0_0 l0_0.length c0_0] 24 (0,0)) (by (with_reducible repeat first|refine zl_ ?_ _|refine zr_ ?_|refine zk_ ?_ _);exact BK360.out) hb);have n4_:=zm_ (blk_below (g:=gb361) (o:=.cells #[.slice A1_0 l1_0.length c1_0] 27 (0,0)) (by (with_reducible repeat first|refine zl_ ?_ _|refine zr_ ?_|refine zk_ ?_ _);exact BK361.out) hb);have n5_:=zm_ (below_step (by repeat (first|(with_reducible first|exact HB.out|apply za_|apply zn_|apply zd_|refine zs_ ?_ GE360.out|refine zs_ ?_ GE361.out)|exact HB.out)) hb);clear HO366;clear HO369;clear BK360;clear BK361;clear HB;have HO366:=n0_;have HO369:=n1_;have HO373:=n2_;have BK360:=n3_;have BK361:=n4_;have HB:=n5_;clear n0_ n1_ n2_ n3_ n4_ n5_;(try clear hb);(try clear hb2);(try clear hk);(try clear hi);(try clear ho0))|((with_reducible refine gate_dst (N:=7) rfl ?_);refine box_event ?hg (N:=7) ?hd (cs:=#[.slice none 0 0]) (t:=33) ?hr ?_;(case hd => rfl);(case hg => rfl);(case hr => first|(go_simp;done)|(go_simp;rfl));intro gb374 hg w47 hbox hb;have n0_:=zm_ (Kd.R_below (by (with_reducible repeat (first|apply Kd.R_alloc|apply Kd.R_drewN|apply Kd.R_drew));exact HO366.out) hb);have n1_:=zm_ (Kd.S_below (by (with_reducible repeat (first|apply Kd.S_alloc|apply Kd.S_drewN|apply Kd.S_drew));exact HO369.out) hb);have n2_:=zm_ (Kd.R_below (by (with_reducible repeat (first|apply Kd.R_alloc|apply Kd.R_drewN|apply Kd.R_drew));exact HO373.out) hb);have n3_:=zm_ (blk_below (g:=gb360) (o:=.cells #[.slice A0_0 l0_0.length c0_0] 24 (0,0)) (by (with_reducible repeat first|refine zl_ ?_ _|refine zr_ ?_|refine zk_ ?_ _);exact BK360.out) hb);have n4_:=zm_ (blk_below (g:=gb361) (o:=.cells #[.slice A1_0 l1_0.length c1_0] 27 (0,0)) (by (with_reducible repeat first|refine zl_ ?_ _|refine zr_ ?_|refine zk_ ?_ _);exact BK361.out) hb);have n5_:=zm_ (below_step (by repeat (first|(with_reducible first|exact HB.out|apply za_|apply zn_|apply zd_|refine zs_ ?_ GE360.out|refine zs_ ?_ GE361.out)|exact HB.out)) hb);have n6_:=zm_ (hbox);have n7_:=zm_ ((by rw [hg];exact (below_size (by repeat (first|(with_reducible first|exact HB.out|apply za_|apply zn_|apply zd_|refine zs_ ?_ GE360.out|refine zs_ ?_ GE361.out)|exact HB.out))) : w.heap.size ≤ gb374));have n8_:=zm_ ((by rw [hg];exact (below_size (by repeat (first|(with_reducible first|exact HB.out|apply za_|apply zn_|apply zd_|refine zs_ ?_ GE360.out|refine zs_ ?_ GE361.out)|exact HB.out))) : w.heap.size ≤ gb374));have n9_:=zm_ ((by rw [hg];exact Nat.ne_of_lt (blk_lt (g:=gb360) (o:=.cells #[.slice A0_0 l0_0.length c0_0] 24 (0,0)) (by (with_reducible repeat first|refine zl_ ?_ _|refine zr_ ?_|refine zk_ ?_ _);exact BK360.out)) : gb360 ≠ gb374));have n10_:=zm_ ((by rw [hg];exact Nat.ne_of_gt (blk_lt (g:=gb360) (o:=.cells #[.slice A0_0 l0_0.length c0_0] 24 (0,0)) (by (with_reducible repeat first|refine zl_ ?_ _|refine zr_ ?_|refine zk_ ?_ _);exact BK360.out)) : gb374 ≠ gb360));have n11_:=zm_ ((by rw [hg];exact Nat.ne_of_lt (blk_lt (g:=gb361) (o:=.cells #[.slice A1_0 l1_0.length c1_0] 27 (0,0)) (by (with_reducible repeat first|refine zl_ ?_ _|refine zr_ ?_|refine zk_ ?_ _);exact BK361.out)) : gb361 ≠ gb374));have n12_:=zm_ ((by rw [hg];exact Nat.ne_of_gt (blk_lt (g:=gb361) (o:=.cells #[.slice A1_0 l1_0.length c1_0] 27 (0,0)) (by (with_reducible repeat first|refine zl_ ?_ _|refine zr_ ?_|refine zk_ ?_ _);exact BK361.out)) : gb374 ≠ gb361));clear HO366;clear HO369;clear HO373;clear BK360;clear BK361;clear HB;have HO366:=n0_;have HO369:=n1_;have HO373:=n2_;have BK360:=n3_;have BK361:=n4_;have HB:=n5_;have BK374:=n6_;have GW374:=n7_;have GE374:=n8_;have NB360_374:=n9_;have NB374_360:=n10_;have NB361_374:=n11_;have NB374_361:=n12_;clear n0_ n1_ n2_ n3_ n4_ n5_ n6_ n7_ n8_ n9_ n10_ n11_ n12_;clear hb hbox hg;obtain ⟨Ao48,co48,eo48⟩:=Kd.R_slice HO373.out;subst eo48;have hnb49:=NB374_360.out;have hnc49:=NB360_374.out;have hnb50:=NB374_361.out;have hnc50:=NB361_374.out;have hcz51_0 : w47.cell? ⟨gb374,0,none⟩ = some (.slice none 0 0):=(zc_ BK374.out 0).trans rfl;have hfz51_0:=zf_ BK374.out 0;have hcz52_0 : w47.cell? ⟨gb361,0,none⟩ = some (.slice A1_0 l1_0.length c1_0):=(zc_ BK361.out 0).trans rfl;have hfz52_0:=zf_ BK361.out 0)|((with_reducible refine gate_callee (f:=8) rfl ?_);refine goesL_ (some 28) rfl rfl Try.func8 (by kernel_rfl) rfl #[.agg #[.slice A1_0 l1_0.length c1_0]] rfl zq_ ?_;(with_reducible refine (laws_toTree.calls k _ _ l1_0 t375 _ ?side1 ?side2 A23.out).mono ?_);(case side1 => exact Kd.C_below HR1_0.out (by repeat (first|(with_reducible first|exact HB.out|apply za_|apply zn_|apply zd_|refine zs_ ?_ GE360.out|refine zs_ ?_ GE361.out|refine zs_ ?_ GE374.out)|exact HB.out)));(case side2 => exact HC1_0.out);rintro e w53 ⟨v376,rfl,ho0,hb⟩;refine ⟨_,rfl,?_⟩;have n0_:=zm_ (Kd.R_below (by (with_reducible repeat (first|apply Kd.R_alloc|apply Kd.R_drewN|apply Kd.R_drew));exact (Kd.R_mono (Kd.R_far (p:=⟨gb374,0,none⟩) (Kd.R_types HO366.out BK374.out (by decide)) (fun _ hk => hk.2) (.slice Ao48 t371.length co48)) (fun _ h_ => h_.1))) hb);have n1_:=zm_ (Kd.S_elder' (by (with_reducible repeat (first|apply Kd.S_alloc|apply Kd.S_drewN|apply Kd.S_drew));exact (Kd.S_mono (Kd.S_far (p:=⟨gb374,0,none⟩) (Kd.S_types HO369.out BK374.out (by decide)) (fun _ hk => hk.2) (.slice Ao48 t371.length co48)) (fun _ h_ => h_.1))) (Kd.S_base ho0) hb);have n2_:=zm_ (Kd.R_below (by (with_reducible repeat (first|apply Kd.R_alloc|apply Kd.R_drewN|apply Kd.R_drew));exact (Kd.R_mono (Kd.R_far (p:=⟨gb374,0,none⟩) (Kd.R_types HO373.out BK374.out (by decide)) (fun _ hk => hk.2) (.slice Ao48 t371.length co48)) (fun _ h_ => h_.1))) hb);have n3_:=zm_ (Kd.S_lower (Kd.S_new' ho0 (Kd.S_lt (by (with_reducible repeat (first|apply Kd.S_alloc|apply Kd.S_drewN|apply Kd.S_drew));exact (Kd.S_mono (Kd.S_far (p:=⟨gb374,0,none⟩) (Kd.S_types HO369.out BK374.out (by decide)) (fun _ hk => hk.2) (.slice Ao48 t371.length co48)) (fun _ h_ => h_.1))))) (below_size (by repeat (first|(with_reducible first|exact HB.out|apply za_|apply zn_|apply zd_|refine zs_ ?_ GE360.out|refine zs_ ?_ GE361.out|refine zs_ ?_ GE374.out)|exact HB.out))));have n4_:=zm_ (blk_below (g:=gb360) (o:=.cells #[.slice A0_0 l0_0.length c0_0] 24 (0,0)) (by (with_reducible repeat first|refine zl_ ?_ _|refine zr_ ?_|refine zk_ ?_ _);refine blk_far ?_ NB360_374.out _;(with_reducible repeat first|refine zl_ ?_ _|refine zr_ ?_|refine zk_ ?_ _);exact BK360.out) hb);have n5_:=zm_ (blk_below (g:=gb361) (o:=.cells #[.slice A1_0 l1_0.length c1_0] 27 (0,0)) (by (with_reducible repeat first|refine zl_ ?_ _|refine zr_ ?_|refine zk_ ?_ _);refine blk_far ?_ NB361_374.out _;(with_reducible repeat first|refine zl_ ?_ _|refine zr_ ?_|refine zk_ ?_ _);exact BK361.out) hb);have n6_:=zm_ (blk_below (g:=gb374) (o:=.cells #[.slice Ao48 t371.length co48] 33 (0,0)) (by (with_reducible repeat first|refine zl_ ?_ _|refine zr_ ?_|refine zk_ ?_ _);refine blk_put (cs:=#[.slice none 0 0]) ?_ 0 _ rfl;(with_reducible repeat first|refine zl_ ?_ _|refine zr_ ?_|refine zk_ ?_ _);exact BK374.out) hb);have n7_:=zm_ (below_step (by repeat (first|(with_reducible first|exact HB.out|apply za_|apply zn_|apply zd_|refine zs_ ?_ GE360.out|refine zs_ ?_ GE361.out|refine zs_ ?_ GE374.out)|exact HB.out)) hb);clear HO366;clear HO369;clear HO373;clear BK360;clear BK361;clear BK374;clear HB;have HO366:=n0_;have HO369:=n1_;have HO373:=n2_;have HO377:=n3_;have BK360:=n4_;have BK361:=n5_;have BK374:=n6_;have HB:=n7_;clear n0_ n1_ n2_ n3_ n4_ n5_ n6_ n7_;(try clear hb);(try clear hb2);(try clear hk);(try clear hi);(try clear ho0))|((with_reducible refine gate_dst (N:=8) rfl ?_);refine box_event ?hg (N:=8) ?hd (cs:=#[.slice none 0 0]) (t:=37) ?hr ?_;(case hd => rfl);(case hg => rfl);(case hr => first|(go_simp;done)|(go_simp;rfl));intro gb378 hg w54 hbox hb;have n0_:=zm_ (Kd.R_below (by (with_reducible repeat (first|apply Kd.R_alloc|apply Kd.R_drewN|apply Kd.R_drew));exact HO366.out) hb);have n1_:=zm_ (Kd.S_below (by (with_reducible repeat (first|apply Kd.S_alloc|apply Kd.S_drewN|apply Kd.S_drew));exact HO369.out) hb);have n2_:=zm_ (Kd.R_below (by (with_reducible repeat (first|apply Kd.R_alloc|apply Kd.R_drewN|apply Kd.R_drew));exact HO373.out) hb);have n3_:=zm_ (Kd.S_below (by (with_reducible repeat (first|apply Kd.S_alloc|apply Kd.S_drewN|apply Kd.S_drew));exact HO377.out) hb);have n4_:=zm_ (blk_below (g:=gb360) (o:=.cells #[.slice A0_0 l0_0.length c0_0] 24 (0,0)) (by (with_reducible repeat first|refine zl_ ?_ _|refine zr_ ?_|refine zk_ ?_ _);exact BK360.out) hb);have n5_:=zm_ (blk_below (g:=gb361) (o:=.cells #[.slice A1_0 l1_0.length c1_0] 27 (0,0)) (by (with_reducible repeat first|refine zl_ ?_ _|refine zr_ ?_|refine zk_ ?_ _);exact BK361.out) hb);have n6_:=zm_ (blk_below (g:=gb374) (o:=.cells #[.slice Ao48 t371.length co48] 33 (0,0)) (by (with_reducible repeat first|refine zl_ ?_ _|refine zr_ ?_|refine zk_ ?_ _);exact BK374.out) hb);have n7_:=zm_ (below_step (by repeat (first|(with_reducible first|exact HB.out|apply za_|apply zn_|apply zd_|refine zs_ ?_ GE360.out|refine zs_ ?_ GE361.out|refine zs_ ?_ GE374.out)|exact HB.out)) hb);have n8_:=zm_ (hbox);have n9_:=zm_ ((by rw [hg];exact (below_size (by repeat (first|(with_reducible first|exact HB.out|apply za_|apply zn_|apply zd_|refine zs_ ?_ GE360.out|refine zs_ ?_ GE361.out|refine zs_ ?_ GE374.out)|exact HB.out))) : w.heap.size ≤ gb378));have n10_:=zm_ ((by rw [hg];exact (below_size (by repeat (first|(with_reducible first|exact HB.out|apply za_|apply zn_|apply zd_|refine zs_ ?_ GE360.out|refine zs_ ?_ GE361.out|refine zs_ ?_ GE374.out)|exact HB.out))) : w.heap.size ≤ gb378));have n11_:=zm_ ((by rw [hg];exact Nat.ne_of_lt (blk_lt (g:=gb360) (o:=.cells #[.slice A0_0 l0_0.length c0_0] 24 (0,0)) (by (with_reducible repeat first|refine zl_ ?_ _|refine zr_ ?_|refine zk_ ?_ _);exact BK360.out)) : gb360 ≠ gb378));have n12_:=zm_ ((by rw [hg];exact Nat.ne_of_gt (blk_lt (g:=gb360) (o:=.cells #[.slice A0_0 l0_0.length c0_0] 24 (0,0)) (by (with_reducible repeat first|refine zl_ ?_ _|refine zr_ ?_|refine zk_ ?_ _);exact BK360.out)) : gb378 ≠ gb360));have n13_:=zm_ ((by rw [hg];exact Nat.ne_of_lt (blk_lt (g:=gb361) (o:=.cells #[.slice A1_0 l1_0.length c1_0] 27 (0,0)) (by (with_reducible repeat first|refine zl_ ?_ _|refine zr_ ?_|refine zk_ ?_ _);exact BK361.out)) : gb361 ≠ gb378));have n14_:=zm_ ((by rw [hg];exact Nat.ne_of_gt (blk_lt (g:=gb361) (o:=.cells #[.slice A1_0 l1_0.length c1_0] 27 (0,0)) (by (with_reducible repeat first|refine zl_ ?_ _|refine zr_ ?_|refine zk_ ?_ _);exact BK361.out)) : gb378 ≠ gb361));have n15_:=zm_ ((by rw [hg];exact Nat.ne_of_lt (blk_lt (g:=gb374) (o:=.cells #[.slice Ao48 t371.length co48] 33 (0,0)) (by (with_reducible repeat first|refine zl_ ?_ _|refine zr_ ?_|refine zk_ ?_ _);exact BK374.out)) : gb374 ≠ gb378));have n16_:=zm_ ((by rw [hg];exact Nat.ne_of_gt (blk_lt (g:=gb374) (o:=.cells #[.slice Ao48 t371.length co48] 33 (0,0)) (by (with_reducible repeat first|refine zl_ ?_ _|refine zr_ ?_|refine zk_ ?_ _);exact BK374.out)) : gb378 ≠ gb374));clear HO366;clear HO369;clear HO373;clear HO377;clear BK360;clear BK361;clear BK374;clear HB;have HO366:=n0_;have HO369:=n1_;have HO373:=n2_;have HO377:=n3_;have BK360:=n4_;have BK361:=n5_;have BK374:=n6_;have HB:=n7_;have BK378:=n8_;have GW378:=n9_;have GE378:=n10_;have NB360_378:=n11_;have NB378_360:=n12_;have NB361_378:=n13_;have NB378_361:=n14_;have NB374_378:=n15_;have NB378_374:=n16_;clear n0_ n1_ n2_ n3_ n4_ n5_ n6_ n7_ n8_ n9_ n10_ n11_ n12_ n13_ n14_ n15_ n16_;clear hb hbox hg;obtain ⟨Ao55,co55,eo55⟩:=Kd.S_slice HO377.out;subst eo55;have hnb56:=NB378_360.out;have hnc56:=NB360_378.out;have hnb57:=NB378_361.out;have hnc57:=NB361_378.out;have hnb58:=NB378_374.out;have hnc58:=NB374_378.out;have hcz59_0 : w54.cell? ⟨gb378,0,none⟩ = some (.slice none 0 0):=(zc_ BK378.out 0).trans rfl;have hfz59_0:=zf_ BK378.out 0;have hcz60_0 : w54.cell? ⟨gb374,0,none⟩ = some (.slice Ao48 t371.length co48):=(zc_ BK374.out 0).trans rfl;have hfz60_0:=zf_ BK374.out 0)|((with_reducible refine gate_callee (f:=9) rfl ?_);refine goesL_ (some 31) rfl rfl Try.func9 (by kernel_rfl) rfl #[.agg #[.slice Ao48 t371.length co48],.agg #[.slice Ao55 t375.length co55]] rfl zq_ ?_;(with_reducible refine (impl_TreeText.calls k _ _ t371 _ _ t375 t379 _ ?side1 ?side2 ?side3 ?side4 A24.out).mono ?_);(case side1 => refine (Kd.R_reads' (e:=51) (base:=w.heap.size) (ok:=fun k_ => (True ∧ some k_ ≠ (.slice Ao42 t364.length co42 : Value).ownBlock)) (n:=t371.length) (c:=co48) ?_).2.2;exact (by (with_reducible repeat (first|apply Kd.R_alloc|apply Kd.R_drewN|apply Kd.R_drew));exact (Kd.R_mono (Kd.R_far (p:=⟨gb378,0,none⟩) (Kd.R_types HO373.out BK378.out (by decide)) (fun _ hk => hk.2) (.slice Ao55 t375.length co55)) (fun _ h_ => h_.1))));(case side2 => exact (Kd.R_reads' HO373.out).2.1);(case side3 => refine (Kd.S_reads' (e:=47) (base:=w.heap.size) (ok:=fun k_ => (True ∧ some k_ ≠ (.slice Ao43 t367.length co43 : Value).ownBlock)) (n:=t375.length) (c:=co55) ?_).2.2;exact (by (with_reducible repeat (first|apply Kd.S_alloc|apply Kd.S_drewN|apply Kd.S_drew));exact (Kd.S_mono (Kd.S_far (p:=⟨gb378,0,none⟩) (Kd.S_types HO377.out BK378.out (by decide)) (fun _ hk => hk.2) (.slice Ao55 t375.length co55)) (fun _ h_ => h_.1))));(case side4 => exact (Kd.S_reads' HO377.out).2.1);rintro e w61 ⟨rfl,hb⟩;refine ⟨_,rfl,?_⟩;have n0_:=zm_ (Kd.R_below (by (with_reducible repeat (first|apply Kd.R_alloc|apply Kd.R_drewN|apply Kd.R_drew));exact (Kd.R_mono (Kd.R_far (p:=⟨gb378,0,none⟩) (Kd.R_types HO366.out BK378.out (by decide)) (fun _ hk => hk.2) (.slice Ao55 t375.length co55)) (fun _ h_ => h_.1))) hb);have n1_:=zm_ (Kd.S_below (by (with_reducible repeat (first|apply Kd.S_alloc|apply Kd.S_drewN|apply Kd.S_drew));exact (Kd.S_mono (Kd.S_far (p:=⟨gb378,0,none⟩) (Kd.S_types HO369.out BK378.out (by decide)) (fun _ hk => hk.2) (.slice Ao55 t375.length co55)) (fun _ h_ => h_.1))) hb);have n2_:=zm_ (Kd.R_below (by (with_reducible repeat (first|apply Kd.R_alloc|apply Kd.R_drewN|apply Kd.R_drew));exact (Kd.R_mono (Kd.R_far (p:=⟨gb378,0,none⟩) (Kd.R_types HO373.out BK378.out (by decide)) (fun _ hk => hk.2) (.slice Ao55 t375.length co55)) (fun _ h_ => h_.1))) hb);have n3_:=zm_ (Kd.S_below (by (with_reducible repeat (first|apply Kd.S_alloc|apply Kd.S_drewN|apply Kd.S_drew));exact (Kd.S_mono (Kd.S_far (p:=⟨gb378,0,none⟩) (Kd.S_types HO377.out BK378.out (by decide)) (fun _ hk => hk.2) (.slice Ao55 t375.length co55)) (fun _ h_ => h_.1))) hb);have n4_:=zm_ (blk_below (g:=gb360) (o:=.cells #[.slice A0_0 l0_0.length c0_0] 24 (0,0)) (by (with_reducible repeat first|refine zl_ ?_ _|refine zr_ ?_|refine zk_ ?_ _);refine blk_far ?_ NB360_378.out _;(with_reducible repeat first|refine zl_ ?_ _|refine zr_ ?_|refine zk_ ?_ _);exact BK360.out) hb);have n5_:=zm_ (blk_below (g:=gb361) (o:=.cells #[.slice A1_0 l1_0.length c1_0] 27 (0,0)) (by (with_reducible repeat first|refine zl_ ?_ _|refine zr_ ?_|refine zk_ ?_ _);refine blk_far ?_ NB361_378.out _;(with_reducible repeat first|refine zl_ ?_ _|refine zr_ ?_|refine zk_ ?_ _);exact BK361.out) hb);have n6_:=zm_ (blk_below (g:=gb374) (o:=.cells #[.slice Ao48 t371.length co48] 33 (0,0)) (by (with_reducible repeat first|refine zl_ ?_ _|refine zr_ ?_|refine zk_ ?_ _);refine blk_far ?_ NB374_378.out _;(with_reducible repeat first|refine zl_ ?_ _|refine zr_ ?_|refine zk_ ?_ _);exact BK374.out) hb);have n7_:=zm_ (blk_below (g:=gb378) (o:=.cells #[.slice Ao55 t375.length co55] 37 (0,0)) (by (with_reducible repeat first|refine zl_ ?_ _|refine zr_ ?_|refine zk_ ?_ _);refine blk_put (cs:=#[.slice none 0 0]) ?_ 0 _ rfl;(with_reducible repeat first|refine zl_ ?_ _|refine zr_ ?_|refine zk_ ?_ _);exact BK378.out) hb);have n8_:=zm_ (below_step (by repeat (first|(with_reducible first|exact HB.out|apply za_|apply zn_|apply zd_|refine zs_ ?_ GE360.out|refine zs_ ?_ GE361.out|refine zs_ ?_ GE374.out|refine zs_ ?_ GE378.out)|exact HB.out)) hb);clear HO366;clear HO369;clear HO373;clear HO377;clear BK360;clear BK361;clear BK374;clear BK378;clear HB;have HO366:=n0_;have HO369:=n1_;have HO373:=n2_;have HO377:=n3_;have BK360:=n4_;have BK361:=n5_;have BK374:=n6_;have BK378:=n7_;have HB:=n8_;clear n0_ n1_ n2_ n3_ n4_ n5_ n6_ n7_ n8_;(try clear hb)))
      have n0_:=zm_ (Kd.R_drew HO366.out)
      have n1_:=zm_ (Kd.S_drew HO369.out)
      have n2_:=zm_ (Kd.R_drew HO373.out)
      have n3_:=zm_ (Kd.S_drew HO377.out)
      have n4_:=zm_ (zr_ BK360.out)
      have n5_:=zm_ (zr_ BK361.out)
      have n6_:=zm_ (zr_ BK374.out)
      have n7_:=zm_ (zr_ BK378.out)
      have n8_:=zm_ (zd_ HB.out)
      clear HO366
      clear HO369
      clear HO373
      clear HO377
      clear BK360
      clear BK361
      clear BK374
      clear BK378
      clear HB
      have HO366:=n0_
      have HO369:=n1_
      have HO373:=n2_
      have HO377:=n3_
      have BK360:=n4_
      have BK361:=n5_
      have BK374:=n6_
      have BK378:=n7_
      have HB:=n8_
      clear n0_ n1_ n2_ n3_ n4_ n5_ n6_ n7_ n8_
      refine start_ (n:=5) (S:=fun w' => w'.cell? ⟨gb374,0,none⟩ = some (.slice Ao48 t371.length co48) ∧ w'.cell? ⟨gb360,0,none⟩ = some (.slice A0_0 l0_0.length c0_0)) (ds:=[]) #[false,false,false,false,false] (by kernel_rfl) rfl rfl ⟨(zc_ BK374.out 0).trans rfl,(zc_ BK360.out 0).trans rfl⟩ (fun hHeld => ?_)
      generalize w61.drew = w62 at HO366 HO369 HO373 HO377 BK360 BK361 BK374 BK378 HB hHeld ⊢
      refine take_ (i:=0) (N:=some 35) (v:=?_) (a':=?_) #[true,false,false,false,false] rfl rfl (by kernel_rfl) (fun _ _ _ h => h) (Or.inl ⟨by rfl,?_⟩) hHeld ?_ ?_
      rotate_left
      ·rintro w' ⟨s0,s1⟩
       go_simp
       with_reducible rfl
      rotate_left
      ·simp only [Act.put,List.setIfInBounds_toArray,List.set_cons_zero,List.set_cons_succ,i64_w,i32_w,IntKind.wrap_u8]
       rfl
      refine take_ (i:=1) (N:=some 36) (v:=?_) (a':=?_) #[true,true,false,false,false] rfl rfl (by kernel_rfl) (fun _ _ _ h => h) (Or.inl ⟨by rfl,?_⟩) hHeld ?_ ?_
      rotate_left
      ·rintro w' ⟨s0,s1⟩
       go_simp
       with_reducible rfl
      rotate_left
      ·simp only [Act.put,List.setIfInBounds_toArray,List.set_cons_zero,List.set_cons_succ,i64_w,i32_w,IntKind.wrap_u8]
       rfl
      refine one_ (i:=2) (N:=some 37) #[true,true,true,false,false] rfl rfl (by kernel_rfl) (by decide) (fun K hK => ?_)
      refine goes_ Try.func7 (by kernel_rfl) rfl #[.agg #[.slice A0_0 l0_0.length c0_0]] (by rfl) rfl rfl zq_ ?_
      with_reducible refine (laws_toGrammar.calls k _ _ l0_0 t380 _ ?side1 ?side2 A26.out).mono ?_
      (case side1 => repeat (first|exact (Kd.C_below HR0_0.out HB.out)|(with_reducible refine Kd.C_alloc ?_ _)|(with_reducible refine Kd.C_drewN ?_ _)|(with_reducible refine Kd.C_drew ?_)))
      (case side2 => exact HC0_0.out)
      rintro e w63 ⟨v381,rfl,ho0,hb⟩
      refine ⟨_,rfl,?_⟩
      have n0_:=zm_ (Kd.R_elder' (by (with_reducible repeat (first|apply Kd.R_alloc|apply Kd.R_drewN|apply Kd.R_drew));exact HO366.out) (Kd.R_base ho0) hb)
      have n1_:=zm_ (Kd.S_below (by (with_reducible repeat (first|apply Kd.S_alloc|apply Kd.S_drewN|apply Kd.S_drew));exact HO369.out) hb)
      have n2_:=zm_ (Kd.R_elder' (by (with_reducible repeat (first|apply Kd.R_alloc|apply Kd.R_drewN|apply Kd.R_drew));exact HO373.out) (Kd.R_base ho0) hb)
      have n3_:=zm_ (Kd.S_below (by (with_reducible repeat (first|apply Kd.S_alloc|apply Kd.S_drewN|apply Kd.S_drew));exact HO377.out) hb)
      have n4_:=zm_ (Kd.R_lower (Kd.R_new' (Kd.R_new' ho0 (Kd.R_lt (by (with_reducible repeat (first|apply Kd.R_alloc|apply Kd.R_drewN|apply Kd.R_drew));exact HO366.out))) (Kd.R_lt (by (with_reducible repeat (first|apply Kd.R_alloc|apply Kd.R_drewN|apply Kd.R_drew));exact HO373.out))) (below_size (by repeat (first|(with_reducible first|exact HB.out|apply za_|apply zn_|apply zd_|refine zs_ ?_ GE360.out|refine zs_ ?_ GE361.out|refine zs_ ?_ GE374.out|refine zs_ ?_ GE378.out)|exact HB.out))))
      have n5_:=zm_ (blk_below (g:=gb360) (o:=.cells #[.slice A0_0 l0_0.length c0_0] 24 (0,0)) (by (with_reducible repeat first|refine zl_ ?_ _|refine zr_ ?_|refine zk_ ?_ _);exact BK360.out) hb)
      have n6_:=zm_ (blk_below (g:=gb361) (o:=.cells #[.slice A1_0 l1_0.length c1_0] 27 (0,0)) (by (with_reducible repeat first|refine zl_ ?_ _|refine zr_ ?_|refine zk_ ?_ _);exact BK361.out) hb)
      have n7_:=zm_ (blk_below (g:=gb374) (o:=.cells #[.slice Ao48 t371.length co48] 33 (0,0)) (by (with_reducible repeat first|refine zl_ ?_ _|refine zr_ ?_|refine zk_ ?_ _);exact BK374.out) hb)
      have n8_:=zm_ (blk_below (g:=gb378) (o:=.cells #[.slice Ao55 t375.length co55] 37 (0,0)) (by (with_reducible repeat first|refine zl_ ?_ _|refine zr_ ?_|refine zk_ ?_ _);exact BK378.out) hb)
      have n9_:=zm_ (below_step (by repeat (first|(with_reducible first|exact HB.out|apply za_|apply zn_|apply zd_|refine zs_ ?_ GE360.out|refine zs_ ?_ GE361.out|refine zs_ ?_ GE374.out|refine zs_ ?_ GE378.out)|exact HB.out)) hb)
      clear HO366
      clear HO369
      clear HO373
      clear HO377
      clear BK360
      clear BK361
      clear BK374
      clear BK378
      clear HB
      have HO366:=n0_
      have HO369:=n1_
      have HO373:=n2_
      have HO377:=n3_
      have HO382:=n4_
      have BK360:=n5_
      have BK361:=n6_
      have BK374:=n7_
      have BK378:=n8_
      have HB:=n9_
      clear n0_ n1_ n2_ n3_ n4_ n5_ n6_ n7_ n8_ n9_
      (try clear hb)
      (try clear hb2)
      (try clear hk)
      (try clear hi)
      (try clear ho0)
      obtain ⟨Ao64,co64,eo64⟩:=Kd.R_slice HO382.out
      (first|subst eo64|(injection eo64 with f1_ f2_ f3_;have f4_:=f1_.symm;have f5_:=f3_.symm;clear f1_ f2_ f3_;subst f4_;subst f5_))
      refine hK.out _ _ ⟨(zc_ BK374.out 0).trans rfl,(zc_ BK360.out 0).trans rfl⟩ (fun hHeld => ?_)
      clear hK K
      refine norm_ (a':=?_) ?_ ?_
      rotate_left
      ·show Act.put _ (some 37) _ = _
       simp only [Act.put,List.setIfInBounds_toArray,List.set_cons_zero,List.set_cons_succ,i64_w,i32_w,IntKind.wrap_u8]
       rfl
      refine one_ (i:=3) (N:=some 38) #[true,true,true,true,false] rfl rfl (by kernel_rfl) (by decide) (fun K hK => ?_)
      refine goes_ Try.func10 (by kernel_rfl) rfl #[.agg #[.slice Ao48 t371.length co48],.agg #[.slice Ao64 t380.length co64]] (by rfl) rfl rfl zq_ ?_
      with_reducible refine (laws_eqGrammar.calls k _ _ t371 _ _ t380 true _ ?side1 ?side2 ?side3 ?side4 A27.out).mono ?_
      (case side1 => repeat (first|exact (Kd.R_reads' HO373.out).2.2|(with_reducible refine Kd.C_alloc ?_ _)|(with_reducible refine Kd.C_drewN ?_ _)|(with_reducible refine Kd.C_drew ?_)))
      (case side2 => exact (Kd.R_reads' HO373.out).2.1)
      (case side3 => repeat (first|exact (Kd.R_reads' HO382.out).2.2|(with_reducible refine Kd.C_alloc ?_ _)|(with_reducible refine Kd.C_drewN ?_ _)|(with_reducible refine Kd.C_drew ?_)))
      (case side4 => exact (Kd.R_reads' HO382.out).2.1)
      rintro e w65 ⟨rfl,hb⟩
      refine ⟨_,rfl,?_⟩
      have n0_:=zm_ (Kd.R_below (by (with_reducible repeat (first|apply Kd.R_alloc|apply Kd.R_drewN|apply Kd.R_drew));exact HO366.out) hb)
      have n1_:=zm_ (Kd.S_below (by (with_reducible repeat (first|apply Kd.S_alloc|apply Kd.S_drewN|apply Kd.S_drew));exact HO369.out) hb)
      have n2_:=zm_ (Kd.R_below (by (with_reducible repeat (first|apply Kd.R_alloc|apply Kd.R_drewN|apply Kd.R_drew));exact HO373.out) hb)
      have n3_:=zm_ (Kd.S_below (by (with_reducible repeat (first|apply Kd.S_alloc|apply Kd.S_drewN|apply Kd.S_drew));exact HO377.out) hb)
      have n4_:=zm_ (Kd.R_below (by (with_reducible repeat (first|apply Kd.R_alloc|apply Kd.R_drewN|apply Kd.R_drew));exact HO382.out) hb)
      have n5_:=zm_ (blk_below (g:=gb360) (o:=.cells #[.slice A0_0 l0_0.length c0_0] 24 (0,0)) (by (with_reducible repeat first|refine zl_ ?_ _|refine zr_ ?_|refine zk_ ?_ _);exact BK360.out) hb)
      have n6_:=zm_ (blk_below (g:=gb361) (o:=.cells #[.slice A1_0 l1_0.length c1_0] 27 (0,0)) (by (with_reducible repeat first|refine zl_ ?_ _|refine zr_ ?_|refine zk_ ?_ _);exact BK361.out) hb)
      have n7_:=zm_ (blk_below (g:=gb374) (o:=.cells #[.slice Ao48 t371.length co48] 33 (0,0)) (by (with_reducible repeat first|refine zl_ ?_ _|refine zr_ ?_|refine zk_ ?_ _);exact BK374.out) hb)
      have n8_:=zm_ (blk_below (g:=gb378) (o:=.cells #[.slice Ao55 t375.length co55] 37 (0,0)) (by (with_reducible repeat first|refine zl_ ?_ _|refine zr_ ?_|refine zk_ ?_ _);exact BK378.out) hb)
      have n9_:=zm_ (below_step (by repeat (first|(with_reducible first|exact HB.out|apply za_|apply zn_|apply zd_|refine zs_ ?_ GE360.out|refine zs_ ?_ GE361.out|refine zs_ ?_ GE374.out|refine zs_ ?_ GE378.out)|exact HB.out)) hb)
      clear HO366
      clear HO369
      clear HO373
      clear HO377
      clear HO382
      clear BK360
      clear BK361
      clear BK374
      clear BK378
      clear HB
      have HO366:=n0_
      have HO369:=n1_
      have HO373:=n2_
      have HO377:=n3_
      have HO382:=n4_
      have BK360:=n5_
      have BK361:=n6_
      have BK374:=n7_
      have BK378:=n8_
      have HB:=n9_
      clear n0_ n1_ n2_ n3_ n4_ n5_ n6_ n7_ n8_ n9_
      (try clear hb)
      (try clear hb2)
      (try clear hk)
      (try clear hi)
      refine hK.out _ _ ⟨(zc_ BK374.out 0).trans rfl,(zc_ BK360.out 0).trans rfl⟩ (fun hHeld => ?_)
      clear hK K
      refine norm_ (a':=?_) ?_ ?_
      rotate_left
      ·show Act.put _ (some 38) _ = _
       simp only [Act.put,List.setIfInBounds_toArray,List.set_cons_zero,List.set_cons_succ,i64_w,i32_w,IntKind.wrap_u8]
       rfl
      refine pure_ (i:=4) (N:=some 39) (v:=?_) (a':=?_) #[true,true,true,true,true] rfl rfl (by kernel_rfl) (fun _ _ _ h => h) (Or.inl ⟨by rfl,?_⟩) ?_ ?_
      rotate_left
      ·intro w'
       go_simp
       with_reducible rfl
      rotate_left
      ·simp only [Act.put,List.setIfInBounds_toArray,List.set_cons_zero,List.set_cons_succ,i64_w,i32_w,IntKind.wrap_u8]
       rfl
      refine done_ (by kernel_rfl) ?_
      try go_wp2
      have n0_:=zm_ (Kd.R_drew HO366.out)
      have n1_:=zm_ (Kd.S_drew HO369.out)
      have n2_:=zm_ (Kd.R_drew HO373.out)
      have n3_:=zm_ (Kd.S_drew HO377.out)
      have n4_:=zm_ (Kd.R_drew HO382.out)
      have n5_:=zm_ (zr_ BK360.out)
      have n6_:=zm_ (zr_ BK361.out)
      have n7_:=zm_ (zr_ BK374.out)
      have n8_:=zm_ (zr_ BK378.out)
      have n9_:=zm_ (zd_ HB.out)
      clear HO366
      clear HO369
      clear HO373
      clear HO377
      clear HO382
      clear BK360
      clear BK361
      clear BK374
      clear BK378
      clear HB
      have HO366:=n0_
      have HO369:=n1_
      have HO373:=n2_
      have HO377:=n3_
      have HO382:=n4_
      have BK360:=n5_
      have BK361:=n6_
      have BK374:=n7_
      have BK378:=n8_
      have HB:=n9_
      clear n0_ n1_ n2_ n3_ n4_ n5_ n6_ n7_ n8_ n9_
      refine start_ (n:=5) (S:=fun w' => w'.cell? ⟨gb378,0,none⟩ = some (.slice Ao55 t375.length co55) ∧ w'.cell? ⟨gb361,0,none⟩ = some (.slice A1_0 l1_0.length c1_0)) (ds:=[]) #[false,false,false,false,false] (by kernel_rfl) rfl rfl ⟨(zc_ BK378.out 0).trans rfl,(zc_ BK361.out 0).trans rfl⟩ (fun hHeld => ?_)
      generalize w65.drew = w66 at HO366 HO369 HO373 HO377 HO382 BK360 BK361 BK374 BK378 HB hHeld ⊢
      refine take_ (i:=0) (N:=some 40) (v:=?_) (a':=?_) #[true,false,false,false,false] rfl rfl (by kernel_rfl) (fun _ _ _ h => h) (Or.inl ⟨by rfl,?_⟩) hHeld ?_ ?_
      rotate_left
      ·rintro w' ⟨s0,s1⟩
       go_simp
       with_reducible rfl
      rotate_left
      ·simp only [Act.put,List.setIfInBounds_toArray,List.set_cons_zero,List.set_cons_succ,i64_w,i32_w,IntKind.wrap_u8]
       rfl
      refine take_ (i:=1) (N:=some 41) (v:=?_) (a':=?_) #[true,true,false,false,false] rfl rfl (by kernel_rfl) (fun _ _ _ h => h) (Or.inl ⟨by rfl,?_⟩) hHeld ?_ ?_
      rotate_left
      ·rintro w' ⟨s0,s1⟩
       go_simp
       with_reducible rfl
      rotate_left
      ·simp only [Act.put,List.setIfInBounds_toArray,List.set_cons_zero,List.set_cons_succ,i64_w,i32_w,IntKind.wrap_u8]
       rfl
      refine one_ (i:=2) (N:=some 42) #[true,true,true,false,false] rfl rfl (by kernel_rfl) (by decide) (fun K hK => ?_)
      refine goes_ Try.func8 (by kernel_rfl) rfl #[.agg #[.slice A1_0 l1_0.length c1_0]] (by rfl) rfl rfl zq_ ?_
      with_reducible refine (laws_toTree.calls k _ _ l1_0 t384 _ ?side1 ?side2 A29.out).mono ?_
      (case side1 => repeat (first|exact (Kd.C_below HR1_0.out HB.out)|(with_reducible refine Kd.C_alloc ?_ _)|(with_reducible refine Kd.C_drewN ?_ _)|(with_reducible refine Kd.C_drew ?_)))
      (case side2 => exact HC1_0.out)
      rintro e w67 ⟨v385,rfl,ho0,hb⟩
      refine ⟨_,rfl,?_⟩
      have n0_:=zm_ (Kd.R_below (by (with_reducible repeat (first|apply Kd.R_alloc|apply Kd.R_drewN|apply Kd.R_drew));exact HO366.out) hb)
      have n1_:=zm_ (Kd.S_elder' (by (with_reducible repeat (first|apply Kd.S_alloc|apply Kd.S_drewN|apply Kd.S_drew));exact HO369.out) (Kd.S_base ho0) hb)
      have n2_:=zm_ (Kd.R_below (by (with_reducible repeat (first|apply Kd.R_alloc|apply Kd.R_drewN|apply Kd.R_drew));exact HO373.out) hb)
      have n3_:=zm_ (Kd.S_elder' (by (with_reducible repeat (first|apply Kd.S_alloc|apply Kd.S_drewN|apply Kd.S_drew));exact HO377.out) (Kd.S_base ho0) hb)
      have n4_:=zm_ (Kd.R_below (by (with_reducible repeat (first|apply Kd.R_alloc|apply Kd.R_drewN|apply Kd.R_drew));exact HO382.out) hb)
      have n5_:=zm_ (Kd.S_lower (Kd.S_new' (Kd.S_new' ho0 (Kd.S_lt (by (with_reducible repeat (first|apply Kd.S_alloc|apply Kd.S_drewN|apply Kd.S_drew));exact HO369.out))) (Kd.S_lt (by (with_reducible repeat (first|apply Kd.S_alloc|apply Kd.S_drewN|apply Kd.S_drew));exact HO377.out))) (below_size (by repeat (first|(with_reducible first|exact HB.out|apply za_|apply zn_|apply zd_|refine zs_ ?_ GE360.out|refine zs_ ?_ GE361.out|refine zs_ ?_ GE374.out|refine zs_ ?_ GE378.out)|exact HB.out))))
      have n6_:=zm_ (blk_below (g:=gb360) (o:=.cells #[.slice A0_0 l0_0.length c0_0] 24 (0,0)) (by (with_reducible repeat first|refine zl_ ?_ _|refine zr_ ?_|refine zk_ ?_ _);exact BK360.out) hb)
      have n7_:=zm_ (blk_below (g:=gb361) (o:=.cells #[.slice A1_0 l1_0.length c1_0] 27 (0,0)) (by (with_reducible repeat first|refine zl_ ?_ _|refine zr_ ?_|refine zk_ ?_ _);exact BK361.out) hb)
      have n8_:=zm_ (blk_below (g:=gb374) (o:=.cells #[.slice Ao48 t371.length co48] 33 (0,0)) (by (with_reducible repeat first|refine zl_ ?_ _|refine zr_ ?_|refine zk_ ?_ _);exact BK374.out) hb)
      have n9_:=zm_ (blk_below (g:=gb378) (o:=.cells #[.slice Ao55 t375.length co55] 37 (0,0)) (by (with_reducible repeat first|refine zl_ ?_ _|refine zr_ ?_|refine zk_ ?_ _);exact BK378.out) hb)
      have n10_:=zm_ (below_step (by repeat (first|(with_reducible first|exact HB.out|apply za_|apply zn_|apply zd_|refine zs_ ?_ GE360.out|refine zs_ ?_ GE361.out|refine zs_ ?_ GE374.out|refine zs_ ?_ GE378.out)|exact HB.out)) hb)
      clear HO366
      clear HO369
      clear HO373
      clear HO377
      clear HO382
      clear BK360
      clear BK361
      clear BK374
      clear BK378
      clear HB
      have HO366:=n0_
      have HO369:=n1_
      have HO373:=n2_
      have HO377:=n3_
      have HO382:=n4_
      have HO386:=n5_
      have BK360:=n6_
      have BK361:=n7_
      have BK374:=n8_
      have BK378:=n9_
      have HB:=n10_
      clear n0_ n1_ n2_ n3_ n4_ n5_ n6_ n7_ n8_ n9_ n10_
      (try clear hb)
      (try clear hb2)
      (try clear hk)
      (try clear hi)
      (try clear ho0)
      obtain ⟨Ao68,co68,eo68⟩:=Kd.S_slice HO386.out
      (first|subst eo68|(injection eo68 with f1_ f2_ f3_;have f4_:=f1_.symm;have f5_:=f3_.symm;clear f1_ f2_ f3_;subst f4_;subst f5_))
      refine hK.out _ _ ⟨(zc_ BK378.out 0).trans rfl,(zc_ BK361.out 0).trans rfl⟩ (fun hHeld => ?_)
      clear hK K
      refine norm_ (a':=?_) ?_ ?_
      rotate_left
      ·show Act.put _ (some 42) _ = _
       simp only [Act.put,List.setIfInBounds_toArray,List.set_cons_zero,List.set_cons_succ,i64_w,i32_w,IntKind.wrap_u8]
       rfl
      refine one_ (i:=3) (N:=some 43) #[true,true,true,true,false] rfl rfl (by kernel_rfl) (by decide) (fun K hK => ?_)
      refine goes_ Try.func11 (by kernel_rfl) rfl #[.agg #[.slice Ao55 t375.length co55],.agg #[.slice Ao68 t384.length co68]] (by rfl) rfl rfl zq_ ?_
      with_reducible refine (laws_eqTree.calls k _ _ t375 _ _ t384 true _ ?side1 ?side2 ?side3 ?side4 A30.out).mono ?_
      (case side1 => repeat (first|exact (Kd.S_reads' HO377.out).2.2|(with_reducible refine Kd.C_alloc ?_ _)|(with_reducible refine Kd.C_drewN ?_ _)|(with_reducible refine Kd.C_drew ?_)))
      (case side2 => exact (Kd.S_reads' HO377.out).2.1)
      (case side3 => repeat (first|exact (Kd.S_reads' HO386.out).2.2|(with_reducible refine Kd.C_alloc ?_ _)|(with_reducible refine Kd.C_drewN ?_ _)|(with_reducible refine Kd.C_drew ?_)))
      (case side4 => exact (Kd.S_reads' HO386.out).2.1)
      rintro e w69 ⟨rfl,hb⟩
      refine ⟨_,rfl,?_⟩
      have n0_:=zm_ (Kd.R_below (by (with_reducible repeat (first|apply Kd.R_alloc|apply Kd.R_drewN|apply Kd.R_drew));exact HO366.out) hb)
      have n1_:=zm_ (Kd.S_below (by (with_reducible repeat (first|apply Kd.S_alloc|apply Kd.S_drewN|apply Kd.S_drew));exact HO369.out) hb)
      have n2_:=zm_ (Kd.R_below (by (with_reducible repeat (first|apply Kd.R_alloc|apply Kd.R_drewN|apply Kd.R_drew));exact HO373.out) hb)
      have n3_:=zm_ (Kd.S_below (by (with_reducible repeat (first|apply Kd.S_alloc|apply Kd.S_drewN|apply Kd.S_drew));exact HO377.out) hb)
      have n4_:=zm_ (Kd.R_below (by (with_reducible repeat (first|apply Kd.R_alloc|apply Kd.R_drewN|apply Kd.R_drew));exact HO382.out) hb)
      have n5_:=zm_ (Kd.S_below (by (with_reducible repeat (first|apply Kd.S_alloc|apply Kd.S_drewN|apply Kd.S_drew));exact HO386.out) hb)
      have n6_:=zm_ (blk_below (g:=gb360) (o:=.cells #[.slice A0_0 l0_0.length c0_0] 24 (0,0)) (by (with_reducible repeat first|refine zl_ ?_ _|refine zr_ ?_|refine zk_ ?_ _);exact BK360.out) hb)
      have n7_:=zm_ (blk_below (g:=gb361) (o:=.cells #[.slice A1_0 l1_0.length c1_0] 27 (0,0)) (by (with_reducible repeat first|refine zl_ ?_ _|refine zr_ ?_|refine zk_ ?_ _);exact BK361.out) hb)
      have n8_:=zm_ (blk_below (g:=gb374) (o:=.cells #[.slice Ao48 t371.length co48] 33 (0,0)) (by (with_reducible repeat first|refine zl_ ?_ _|refine zr_ ?_|refine zk_ ?_ _);exact BK374.out) hb)
      have n9_:=zm_ (blk_below (g:=gb378) (o:=.cells #[.slice Ao55 t375.length co55] 37 (0,0)) (by (with_reducible repeat first|refine zl_ ?_ _|refine zr_ ?_|refine zk_ ?_ _);exact BK378.out) hb)
      have n10_:=zm_ (below_step (by repeat (first|(with_reducible first|exact HB.out|apply za_|apply zn_|apply zd_|refine zs_ ?_ GE360.out|refine zs_ ?_ GE361.out|refine zs_ ?_ GE374.out|refine zs_ ?_ GE378.out)|exact HB.out)) hb)
      clear HO366
      clear HO369
      clear HO373
      clear HO377
      clear HO382
      clear HO386
      clear BK360
      clear BK361
      clear BK374
      clear BK378
      clear HB
      have HO366:=n0_
      have HO369:=n1_
      have HO373:=n2_
      have HO377:=n3_
      have HO382:=n4_
      have HO386:=n5_
      have BK360:=n6_
      have BK361:=n7_
      have BK374:=n8_
      have BK378:=n9_
      have HB:=n10_
      clear n0_ n1_ n2_ n3_ n4_ n5_ n6_ n7_ n8_ n9_ n10_
      (try clear hb)
      (try clear hb2)
      (try clear hk)
      (try clear hi)
      refine hK.out _ _ ⟨(zc_ BK378.out 0).trans rfl,(zc_ BK361.out 0).trans rfl⟩ (fun hHeld => ?_)
      clear hK K
      refine norm_ (a':=?_) ?_ ?_
      rotate_left
      ·show Act.put _ (some 43) _ = _
       simp only [Act.put,List.setIfInBounds_toArray,List.set_cons_zero,List.set_cons_succ,i64_w,i32_w,IntKind.wrap_u8]
       rfl
      refine pure_ (i:=4) (N:=some 44) (v:=?_) (a':=?_) #[true,true,true,true,true] rfl rfl (by kernel_rfl) (fun _ _ _ h => h) (Or.inl ⟨by rfl,?_⟩) ?_ ?_
      rotate_left
      ·intro w'
       go_simp
       with_reducible rfl
      rotate_left
      ·simp only [Act.put,List.setIfInBounds_toArray,List.set_cons_zero,List.set_cons_succ,i64_w,i32_w,IntKind.wrap_u8]
       rfl
      refine done_ (by kernel_rfl) ?_
      try go_wp2
      go_ret
      exact ⟨zE_,by repeat (first|(with_reducible first|exact HB.out|apply za_|apply zn_|apply zd_|refine zs_ ?_ GE360.out|refine zs_ ?_ GE361.out|refine zs_ ?_ GE374.out|refine zs_ ?_ GE378.out)|exact HB.out)⟩
     ·replace c31:=Bool.eq_false_iff.mpr c31
      subst c31
      have H1 : (some false) = some r:=by rw [if_neg (show ¬ (false = true) by decide)] at H;exact H
      clear H
      have H:=H1
      clear H1
      obtain rfl:=Option.some.inj H
      go_enter Try.func3,Try.ntmps3
      try go_wp2_with (first|((with_reducible refine gate_dst (N:=2) rfl ?_);refine box_event ?hg (N:=2) ?hd (cs:=#[.slice A0_0 l0_0.length c0_0]) (t:=24) ?hr ?_;(case hd => rfl);(case hg => rfl);(case hr => first|(go_simp;done)|(go_simp;rfl));intro gb360 hg w70 hbox hb;have n0_:=zm_ (below_step zB_ hb);have n1_:=zm_ (hbox);have n2_:=zm_ ((by rw [hg];exact (below_size zB_) : w.heap.size ≤ gb360));have n3_:=zm_ ((by rw [hg];exact (below_size zB_) : w.heap.size ≤ gb360));clear HB;have HB:=n0_;have BK360:=n1_;have GW360:=n2_;have GE360:=n3_;clear n0_ n1_ n2_ n3_;clear hb hbox hg)|((with_reducible refine gate_dst (N:=3) rfl ?_);refine box_event ?hg (N:=3) ?hd (cs:=#[.slice A1_0 l1_0.length c1_0]) (t:=27) ?hr ?_;(case hd => rfl);(case hg => rfl);(case hr => first|(go_simp;done)|(go_simp;rfl));intro gb361 hg w71 hbox hb;have n0_:=zm_ (blk_below (g:=gb360) (o:=.cells #[.slice A0_0 l0_0.length c0_0] 24 (0,0)) (by (with_reducible repeat first|refine zl_ ?_ _|refine zr_ ?_|refine zk_ ?_ _);exact BK360.out) hb);have n1_:=zm_ (below_step (by repeat (first|(with_reducible first|exact HB.out|apply za_|apply zn_|apply zd_|refine zs_ ?_ GE360.out)|exact HB.out)) hb);have n2_:=zm_ (hbox);have n3_:=zm_ ((by rw [hg];exact (below_size (by repeat (first|(with_reducible first|exact HB.out|apply za_|apply zn_|apply zd_|refine zs_ ?_ GE360.out)|exact HB.out))) : w.heap.size ≤ gb361));have n4_:=zm_ ((by rw [hg];exact (below_size (by repeat (first|(with_reducible first|exact HB.out|apply za_|apply zn_|apply zd_|refine zs_ ?_ GE360.out)|exact HB.out))) : w.heap.size ≤ gb361));have n5_:=zm_ ((by rw [hg];exact Nat.ne_of_lt (blk_lt (g:=gb360) (o:=.cells #[.slice A0_0 l0_0.length c0_0] 24 (0,0)) (by (with_reducible repeat first|refine zl_ ?_ _|refine zr_ ?_|refine zk_ ?_ _);exact BK360.out)) : gb360 ≠ gb361));have n6_:=zm_ ((by rw [hg];exact Nat.ne_of_gt (blk_lt (g:=gb360) (o:=.cells #[.slice A0_0 l0_0.length c0_0] 24 (0,0)) (by (with_reducible repeat first|refine zl_ ?_ _|refine zr_ ?_|refine zk_ ?_ _);exact BK360.out)) : gb361 ≠ gb360));clear BK360;clear HB;have BK360:=n0_;have HB:=n1_;have BK361:=n2_;have GW361:=n3_;have GE361:=n4_;have NB360_361:=n5_;have NB361_360:=n6_;clear n0_ n1_ n2_ n3_ n4_ n5_ n6_;clear hb hbox hg;have hnb72:=NB360_361.out;have hnc72:=NB361_360.out;have hcz73_0 : w71.cell? ⟨gb360,0,none⟩ = some (.slice A0_0 l0_0.length c0_0):=(zc_ BK360.out 0).trans rfl;have hfz73_0:=zf_ BK360.out 0)|((with_reducible refine gate_callee (f:=4) rfl ?_);refine goesL_ (some 12) rfl rfl Try.func4 (by kernel_rfl) rfl #[.agg #[.slice A0_0 l0_0.length c0_0],.int .i64 1048576] rfl zq_ ?_;(with_reducible refine (laws_szGrammar.calls k _ _ l0_0 1048576 t362 _ ?side1 ?side2 A3.out).mono ?_);(case side1 => repeat (first|exact (Kd.C_below HR0_0.out HB.out)|(with_reducible refine Kd.C_alloc ?_ _)|(with_reducible refine Kd.C_drewN ?_ _)|(with_reducible refine Kd.C_drew ?_)));(case side2 => exact HC0_0.out);rintro e w74 ⟨rfl,hb⟩;refine ⟨_,rfl,?_⟩;have n0_:=zm_ (blk_below (g:=gb360) (o:=.cells #[.slice A0_0 l0_0.length c0_0] 24 (0,0)) (by (with_reducible repeat first|refine zl_ ?_ _|refine zr_ ?_|refine zk_ ?_ _);exact BK360.out) hb);have n1_:=zm_ (blk_below (g:=gb361) (o:=.cells #[.slice A1_0 l1_0.length c1_0] 27 (0,0)) (by (with_reducible repeat first|refine zl_ ?_ _|refine zr_ ?_|refine zk_ ?_ _);exact BK361.out) hb);have n2_:=zm_ (below_step (by repeat (first|(with_reducible first|exact HB.out|apply za_|apply zn_|apply zd_|refine zs_ ?_ GE360.out|refine zs_ ?_ GE361.out)|exact HB.out)) hb);clear BK360;clear BK361;clear HB;have BK360:=n0_;have BK361:=n1_;have HB:=n2_;clear n0_ n1_ n2_;(try clear hb);have hcz75_0 : w74.cell? ⟨gb361,0,none⟩ = some (.slice A1_0 l1_0.length c1_0):=(zc_ BK361.out 0).trans rfl;have hfz75_0:=zf_ BK361.out 0)|((with_reducible refine gate_callee (f:=5) rfl ?_);refine goesL_ (some 17) rfl rfl Try.func5 (by kernel_rfl) rfl #[.agg #[.slice A1_0 l1_0.length c1_0],.int .i64 t362] rfl zq_ ?_;(with_reducible refine (laws_szTree.calls k _ _ l1_0 t362 t363 _ ?side1 ?side2 A10.out).mono ?_);(case side1 => repeat (first|exact (Kd.C_below HR1_0.out HB.out)|(with_reducible refine Kd.C_alloc ?_ _)|(with_reducible refine Kd.C_drewN ?_ _)|(with_reducible refine Kd.C_drew ?_)));(case side2 => exact HC1_0.out);rintro e w76 ⟨rfl,hb⟩;refine ⟨_,rfl,?_⟩;have n0_:=zm_ (blk_below (g:=gb360) (o:=.cells #[.slice A0_0 l0_0.length c0_0] 24 (0,0)) (by (with_reducible repeat first|refine zl_ ?_ _|refine zr_ ?_|refine zk_ ?_ _);exact BK360.out) hb);have n1_:=zm_ (blk_below (g:=gb361) (o:=.cells #[.slice A1_0 l1_0.length c1_0] 27 (0,0)) (by (with_reducible repeat first|refine zl_ ?_ _|refine zr_ ?_|refine zk_ ?_ _);exact BK361.out) hb);have n2_:=zm_ (below_step (by repeat (first|(with_reducible first|exact HB.out|apply za_|apply zn_|apply zd_|refine zs_ ?_ GE360.out|refine zs_ ?_ GE361.out)|exact HB.out)) hb);clear BK360;clear BK361;clear HB;have BK360:=n0_;have BK361:=n1_;have HB:=n2_;clear n0_ n1_ n2_;(try clear hb)))
      have n0_:=zm_ (zr_ BK360.out)
      have n1_:=zm_ (zr_ BK361.out)
      have n2_:=zm_ (zd_ HB.out)
      clear BK360
      clear BK361
      clear HB
      have BK360:=n0_
      have BK361:=n1_
      have HB:=n2_
      clear n0_ n1_ n2_
      refine start_ (n:=6) (S:=fun w' => w'.cell? ⟨gb360,0,none⟩ = some (.slice A0_0 l0_0.length c0_0) ∧ w'.cell? ⟨gb361,0,none⟩ = some (.slice A1_0 l1_0.length c1_0)) (ds:=[]) #[false,false,false,false,false,false] (by kernel_rfl) rfl rfl ⟨(zc_ BK360.out 0).trans rfl,(zc_ BK361.out 0).trans rfl⟩ (fun hHeld => ?_)
      generalize w76.drew = w77 at BK360 BK361 HB hHeld ⊢
      refine take_ (i:=0) (N:=some 20) (v:=?_) (a':=?_) #[true,false,false,false,false,false] rfl rfl (by kernel_rfl) (fun _ _ _ h => h) (Or.inl ⟨by rfl,?_⟩) hHeld ?_ ?_
      rotate_left
      ·rintro w' ⟨s0,s1⟩
       go_simp
       with_reducible rfl
      rotate_left
      ·simp only [Act.put,List.setIfInBounds_toArray,List.set_cons_zero,List.set_cons_succ,i64_w,i32_w,IntKind.wrap_u8]
       rfl
      refine take_ (i:=2) (N:=some 22) (v:=?_) (a':=?_) #[true,false,true,false,false,false] rfl rfl (by kernel_rfl) (fun _ _ _ h => h) (Or.inl ⟨by rfl,?_⟩) hHeld ?_ ?_
      rotate_left
      ·rintro w' ⟨s0,s1⟩
       go_simp
       with_reducible rfl
      rotate_left
      ·simp only [Act.put,List.setIfInBounds_toArray,List.set_cons_zero,List.set_cons_succ,i64_w,i32_w,IntKind.wrap_u8]
       rfl
      refine one_ (i:=1) (N:=some 21) #[true,true,true,false,false,false] rfl rfl (by kernel_rfl) (by decide) (fun K hK => ?_)
      refine goes_ Try.func7 (by kernel_rfl) rfl #[.agg #[.slice A0_0 l0_0.length c0_0]] (by rfl) rfl rfl zq_ ?_
      with_reducible refine (laws_toGrammar.calls k _ _ l0_0 t364 _ ?side1 ?side2 A19.out).mono ?_
      (case side1 => repeat (first|exact (Kd.C_below HR0_0.out HB.out)|(with_reducible refine Kd.C_alloc ?_ _)|(with_reducible refine Kd.C_drewN ?_ _)|(with_reducible refine Kd.C_drew ?_)))
      (case side2 => exact HC0_0.out)
      rintro e w78 ⟨v365,rfl,ho0,hb⟩
      refine ⟨_,rfl,?_⟩
      have n0_:=zm_ (Kd.R_lower ho0 (below_size (by repeat (first|(with_reducible first|exact HB.out|apply za_|apply zn_|apply zd_|refine zs_ ?_ GE360.out|refine zs_ ?_ GE361.out)|exact HB.out))))
      have n1_:=zm_ (blk_below (g:=gb360) (o:=.cells #[.slice A0_0 l0_0.length c0_0] 24 (0,0)) (by (with_reducible repeat first|refine zl_ ?_ _|refine zr_ ?_|refine zk_ ?_ _);exact BK360.out) hb)
      have n2_:=zm_ (blk_below (g:=gb361) (o:=.cells #[.slice A1_0 l1_0.length c1_0] 27 (0,0)) (by (with_reducible repeat first|refine zl_ ?_ _|refine zr_ ?_|refine zk_ ?_ _);exact BK361.out) hb)
      have n3_:=zm_ (below_step (by repeat (first|(with_reducible first|exact HB.out|apply za_|apply zn_|apply zd_|refine zs_ ?_ GE360.out|refine zs_ ?_ GE361.out)|exact HB.out)) hb)
      clear BK360
      clear BK361
      clear HB
      have HO366:=n0_
      have BK360:=n1_
      have BK361:=n2_
      have HB:=n3_
      clear n0_ n1_ n2_ n3_
      (try clear hb)
      (try clear hb2)
      (try clear hk)
      (try clear hi)
      (try clear ho0)
      refine hK.out _ _ ⟨(zc_ BK360.out 0).trans rfl,(zc_ BK361.out 0).trans rfl⟩ (fun hHeld => ?_)
      clear hK K
      refine norm_ (a':=?_) ?_ ?_
      rotate_left
      ·show Act.put _ (some 21) _ = _
       simp only [Act.put,List.setIfInBounds_toArray,List.set_cons_zero,List.set_cons_succ,i64_w,i32_w,IntKind.wrap_u8]
       rfl
      refine one_ (i:=3) (N:=some 23) #[true,true,true,true,false,false] rfl rfl (by kernel_rfl) (by decide) (fun K hK => ?_)
      refine goes_ Try.func8 (by kernel_rfl) rfl #[.agg #[.slice A1_0 l1_0.length c1_0]] (by rfl) rfl rfl zq_ ?_
      with_reducible refine (laws_toTree.calls k _ _ l1_0 t367 _ ?side1 ?side2 A20.out).mono ?_
      (case side1 => repeat (first|exact (Kd.C_below HR1_0.out HB.out)|(with_reducible refine Kd.C_alloc ?_ _)|(with_reducible refine Kd.C_drewN ?_ _)|(with_reducible refine Kd.C_drew ?_)))
      (case side2 => exact HC1_0.out)
      rintro e w79 ⟨v368,rfl,ho0,hb⟩
      refine ⟨_,rfl,?_⟩
      have n0_:=zm_ (Kd.R_below (by (with_reducible repeat (first|apply Kd.R_alloc|apply Kd.R_drewN|apply Kd.R_drew));exact HO366.out) hb)
      have n1_:=zm_ (Kd.S_lower ho0 (below_size (by repeat (first|(with_reducible first|exact HB.out|apply za_|apply zn_|apply zd_|refine zs_ ?_ GE360.out|refine zs_ ?_ GE361.out)|exact HB.out))))
      have n2_:=zm_ (blk_below (g:=gb360) (o:=.cells #[.slice A0_0 l0_0.length c0_0] 24 (0,0)) (by (with_reducible repeat first|refine zl_ ?_ _|refine zr_ ?_|refine zk_ ?_ _);exact BK360.out) hb)
      have n3_:=zm_ (blk_below (g:=gb361) (o:=.cells #[.slice A1_0 l1_0.length c1_0] 27 (0,0)) (by (with_reducible repeat first|refine zl_ ?_ _|refine zr_ ?_|refine zk_ ?_ _);exact BK361.out) hb)
      have n4_:=zm_ (below_step (by repeat (first|(with_reducible first|exact HB.out|apply za_|apply zn_|apply zd_|refine zs_ ?_ GE360.out|refine zs_ ?_ GE361.out)|exact HB.out)) hb)
      clear HO366
      clear BK360
      clear BK361
      clear HB
      have HO366:=n0_
      have HO369:=n1_
      have BK360:=n2_
      have BK361:=n3_
      have HB:=n4_
      clear n0_ n1_ n2_ n3_ n4_
      (try clear hb)
      (try clear hb2)
      (try clear hk)
      (try clear hi)
      (try clear ho0)
      obtain ⟨Ao80,co80,eo80⟩:=Kd.R_slice HO366.out
      (first|subst eo80|(injection eo80 with f1_ f2_ f3_;have f4_:=f1_.symm;have f5_:=f3_.symm;clear f1_ f2_ f3_;subst f4_;subst f5_))
      obtain ⟨Ao81,co81,eo81⟩:=Kd.S_slice HO369.out
      (first|subst eo81|(injection eo81 with f1_ f2_ f3_;have f4_:=f1_.symm;have f5_:=f3_.symm;clear f1_ f2_ f3_;subst f4_;subst f5_))
      refine hK.out _ _ ⟨(zc_ BK360.out 0).trans rfl,(zc_ BK361.out 0).trans rfl⟩ (fun hHeld => ?_)
      clear hK K
      refine norm_ (a':=?_) ?_ ?_
      rotate_left
      ·show Act.put _ (some 23) _ = _
       simp only [Act.put,List.setIfInBounds_toArray,List.set_cons_zero,List.set_cons_succ,i64_w,i32_w,IntKind.wrap_u8]
       rfl
      refine one_ (i:=4) (N:=some 24) #[true,true,true,true,true,false] rfl rfl (by kernel_rfl) (by decide) (fun K hK => ?_)
      refine goes_ Try.func6 (by kernel_rfl) rfl #[.agg #[.slice Ao80 t364.length co80],.agg #[.slice Ao81 t367.length co81]] (by rfl) rfl rfl zq_ ?_
      with_reducible refine (spec_TreeText.calls k _ _ t364 _ _ t367 t370 _ ?side1 ?side2 ?side3 ?side4 A21.out).mono ?_
      (case side1 => repeat (first|exact (Kd.R_reads' HO366.out).2.2|(with_reducible refine Kd.C_alloc ?_ _)|(with_reducible refine Kd.C_drewN ?_ _)|(with_reducible refine Kd.C_drew ?_)))
      (case side2 => exact (Kd.R_reads' HO366.out).2.1)
      (case side3 => repeat (first|exact (Kd.S_reads' HO369.out).2.2|(with_reducible refine Kd.C_alloc ?_ _)|(with_reducible refine Kd.C_drewN ?_ _)|(with_reducible refine Kd.C_drew ?_)))
      (case side4 => exact (Kd.S_reads' HO369.out).2.1)
      rintro e w82 ⟨rfl,hb⟩
      refine ⟨_,rfl,?_⟩
      have n0_:=zm_ (Kd.R_below (by (with_reducible repeat (first|apply Kd.R_alloc|apply Kd.R_drewN|apply Kd.R_drew));exact HO366.out) hb)
      have n1_:=zm_ (Kd.S_below (by (with_reducible repeat (first|apply Kd.S_alloc|apply Kd.S_drewN|apply Kd.S_drew));exact HO369.out) hb)
      have n2_:=zm_ (blk_below (g:=gb360) (o:=.cells #[.slice A0_0 l0_0.length c0_0] 24 (0,0)) (by (with_reducible repeat first|refine zl_ ?_ _|refine zr_ ?_|refine zk_ ?_ _);exact BK360.out) hb)
      have n3_:=zm_ (blk_below (g:=gb361) (o:=.cells #[.slice A1_0 l1_0.length c1_0] 27 (0,0)) (by (with_reducible repeat first|refine zl_ ?_ _|refine zr_ ?_|refine zk_ ?_ _);exact BK361.out) hb)
      have n4_:=zm_ (below_step (by repeat (first|(with_reducible first|exact HB.out|apply za_|apply zn_|apply zd_|refine zs_ ?_ GE360.out|refine zs_ ?_ GE361.out)|exact HB.out)) hb)
      clear HO366
      clear HO369
      clear BK360
      clear BK361
      clear HB
      have HO366:=n0_
      have HO369:=n1_
      have BK360:=n2_
      have BK361:=n3_
      have HB:=n4_
      clear n0_ n1_ n2_ n3_ n4_
      (try clear hb)
      (try clear hb2)
      (try clear hk)
      (try clear hi)
      refine hK.out _ _ ⟨(zc_ BK360.out 0).trans rfl,(zc_ BK361.out 0).trans rfl⟩ (fun hHeld => ?_)
      clear hK K
      refine norm_ (a':=?_) ?_ ?_
      rotate_left
      ·show Act.put _ (some 24) _ = _
       simp only [Act.put,List.setIfInBounds_toArray,List.set_cons_zero,List.set_cons_succ,i64_w,i32_w,IntKind.wrap_u8]
       rfl
      refine pure_ (i:=5) (N:=some 6) (v:=?_) (a':=?_) #[true,true,true,true,true,true] rfl rfl (by kernel_rfl) (fun _ _ _ h => h) (Or.inl ⟨by rfl,?_⟩) ?_ ?_
      rotate_left
      ·intro w'
       go_simp
       with_reducible rfl
      rotate_left
      ·simp only [Act.put,List.setIfInBounds_toArray,List.set_cons_zero,List.set_cons_succ,i64_w,i32_w,IntKind.wrap_u8]
       rfl
      refine done_ (by kernel_rfl) ?_
      have hcz83_0 : w82.cell? ⟨gb360,0,none⟩ = some (.slice A0_0 l0_0.length c0_0):=(zc_ BK360.out 0).trans rfl
      have hfz83_0:=zf_ BK360.out 0
      try go_wp2_with (first|((with_reducible refine gate_callee (f:=7) rfl ?_);refine goesL_ (some 26) rfl rfl Try.func7 (by kernel_rfl) rfl #[.agg #[.slice A0_0 l0_0.length c0_0]] rfl zq_ ?_;(with_reducible refine (laws_toGrammar.calls k _ _ l0_0 t371 _ ?side1 ?side2 A22.out).mono ?_);(case side1 => repeat (first|exact (Kd.C_below HR0_0.out HB.out)|(with_reducible refine Kd.C_alloc ?_ _)|(with_reducible refine Kd.C_drewN ?_ _)|(with_reducible refine Kd.C_drew ?_)));(case side2 => exact HC0_0.out);rintro e w84 ⟨v372,rfl,ho0,hb⟩;refine ⟨_,rfl,?_⟩;have n0_:=zm_ (Kd.R_elder' (by (with_reducible repeat (first|apply Kd.R_alloc|apply Kd.R_drewN|apply Kd.R_drew));exact HO366.out) (Kd.R_base ho0) hb);have n1_:=zm_ (Kd.S_below (by (with_reducible repeat (first|apply Kd.S_alloc|apply Kd.S_drewN|apply Kd.S_drew));exact HO369.out) hb);have n2_:=zm_ (Kd.R_lower (Kd.R_new' ho0 (Kd.R_lt (by (with_reducible repeat (first|apply Kd.R_alloc|apply Kd.R_drewN|apply Kd.R_drew));exact HO366.out))) (below_size (by repeat (first|(with_reducible first|exact HB.out|apply za_|apply zn_|apply zd_|refine zs_ ?_ GE360.out|refine zs_ ?_ GE361.out)|exact HB.out))));have n3_:=zm_ (blk_below (g:=gb360) (o:=.cells #[.slice A0_0 l0_0.length c0_0] 24 (0,0)) (by (with_reducible repeat first|refine zl_ ?_ _|refine zr_ ?_|refine zk_ ?_ _);exact BK360.out) hb);have n4_:=zm_ (blk_below (g:=gb361) (o:=.cells #[.slice A1_0 l1_0.length c1_0] 27 (0,0)) (by (with_reducible repeat first|refine zl_ ?_ _|refine zr_ ?_|refine zk_ ?_ _);exact BK361.out) hb);have n5_:=zm_ (below_step (by repeat (first|(with_reducible first|exact HB.out|apply za_|apply zn_|apply zd_|refine zs_ ?_ GE360.out|refine zs_ ?_ GE361.out)|exact HB.out)) hb);clear HO366;clear HO369;clear BK360;clear BK361;clear HB;have HO366:=n0_;have HO369:=n1_;have HO373:=n2_;have BK360:=n3_;have BK361:=n4_;have HB:=n5_;clear n0_ n1_ n2_ n3_ n4_ n5_;(try clear hb);(try clear hb2);(try clear hk);(try clear hi);(try clear ho0))|((with_reducible refine gate_dst (N:=7) rfl ?_);refine box_event ?hg (N:=7) ?hd (cs:=#[.slice none 0 0]) (t:=33) ?hr ?_;(case hd => rfl);(case hg => rfl);(case hr => first|(go_simp;done)|(go_simp;rfl));intro gb374 hg w85 hbox hb;have n0_:=zm_ (Kd.R_below (by (with_reducible repeat (first|apply Kd.R_alloc|apply Kd.R_drewN|apply Kd.R_drew));exact HO366.out) hb);have n1_:=zm_ (Kd.S_below (by (with_reducible repeat (first|apply Kd.S_alloc|apply Kd.S_drewN|apply Kd.S_drew));exact HO369.out) hb);have n2_:=zm_ (Kd.R_below (by (with_reducible repeat (first|apply Kd.R_alloc|apply Kd.R_drewN|apply Kd.R_drew));exact HO373.out) hb);have n3_:=zm_ (blk_below (g:=gb360) (o:=.cells #[.slice A0_0 l0_0.length c0_0] 24 (0,0)) (by (with_reducible repeat first|refine zl_ ?_ _|refine zr_ ?_|refine zk_ ?_ _);exact BK360.out) hb);have n4_:=zm_ (blk_below (g:=gb361) (o:=.cells #[.slice A1_0 l1_0.length c1_0] 27 (0,0)) (by (with_reducible repeat first|refine zl_ ?_ _|refine zr_ ?_|refine zk_ ?_ _);exact BK361.out) hb);have n5_:=zm_ (below_step (by repeat (first|(with_reducible first|exact HB.out|apply za_|apply zn_|apply zd_|refine zs_ ?_ GE360.out|refine zs_ ?_ GE361.out)|exact HB.out)) hb);have n6_:=zm_ (hbox);have n7_:=zm_ ((by rw [hg];exact (below_size (by repeat (first|(with_reducible first|exact HB.out|apply za_|apply zn_|apply zd_|refine zs_ ?_ GE360.out|refine zs_ ?_ GE361.out)|exact HB.out))) : w.heap.size ≤ gb374));have n8_:=zm_ ((by rw [hg];exact (below_size (by repeat (first|(with_reducible first|exact HB.out|apply za_|apply zn_|apply zd_|refine zs_ ?_ GE360.out|refine zs_ ?_ GE361.out)|exact HB.out))) : w.heap.size ≤ gb374));have n9_:=zm_ ((by rw [hg];exact Nat.ne_of_lt (blk_lt (g:=gb360) (o:=.cells #[.slice A0_0 l0_0.length c0_0] 24 (0,0)) (by (with_reducible repeat first|refine zl_ ?_ _|refine zr_ ?_|refine zk_ ?_ _);exact BK360.out)) : gb360 ≠ gb374));have n10_:=zm_ ((by rw [hg];exact Nat.ne_of_gt (blk_lt (g:=gb360) (o:=.cells #[.slice A0_0 l0_0.length c0_0] 24 (0,0)) (by (with_reducible repeat first|refine zl_ ?_ _|refine zr_ ?_|refine zk_ ?_ _);exact BK360.out)) : gb374 ≠ gb360));have n11_:=zm_ ((by rw [hg];exact Nat.ne_of_lt (blk_lt (g:=gb361) (o:=.cells #[.slice A1_0 l1_0.length c1_0] 27 (0,0)) (by (with_reducible repeat first|refine zl_ ?_ _|refine zr_ ?_|refine zk_ ?_ _);exact BK361.out)) : gb361 ≠ gb374));have n12_:=zm_ ((by rw [hg];exact Nat.ne_of_gt (blk_lt (g:=gb361) (o:=.cells #[.slice A1_0 l1_0.length c1_0] 27 (0,0)) (by (with_reducible repeat first|refine zl_ ?_ _|refine zr_ ?_|refine zk_ ?_ _);exact BK361.out)) : gb374 ≠ gb361));clear HO366;clear HO369;clear HO373;clear BK360;clear BK361;clear HB;have HO366:=n0_;have HO369:=n1_;have HO373:=n2_;have BK360:=n3_;have BK361:=n4_;have HB:=n5_;have BK374:=n6_;have GW374:=n7_;have GE374:=n8_;have NB360_374:=n9_;have NB374_360:=n10_;have NB361_374:=n11_;have NB374_361:=n12_;clear n0_ n1_ n2_ n3_ n4_ n5_ n6_ n7_ n8_ n9_ n10_ n11_ n12_;clear hb hbox hg;obtain ⟨Ao86,co86,eo86⟩:=Kd.R_slice HO373.out;subst eo86;have hnb87:=NB374_360.out;have hnc87:=NB360_374.out;have hnb88:=NB374_361.out;have hnc88:=NB361_374.out;have hcz89_0 : w85.cell? ⟨gb374,0,none⟩ = some (.slice none 0 0):=(zc_ BK374.out 0).trans rfl;have hfz89_0:=zf_ BK374.out 0;have hcz90_0 : w85.cell? ⟨gb361,0,none⟩ = some (.slice A1_0 l1_0.length c1_0):=(zc_ BK361.out 0).trans rfl;have hfz90_0:=zf_ BK361.out 0)|((with_reducible refine gate_callee (f:=8) rfl ?_);refine goesL_ (some 28) rfl rfl Try.func8 (by kernel_rfl) rfl #[.agg #[.slice A1_0 l1_0.length c1_0]] rfl zq_ ?_;(with_reducible refine (laws_toTree.calls k _ _ l1_0 t375 _ ?side1 ?side2 A23.out).mono ?_);(case side1 => exact Kd.C_below HR1_0.out (by repeat (first|(with_reducible first|exact HB.out|apply za_|apply zn_|apply zd_|refine zs_ ?_ GE360.out|refine zs_ ?_ GE361.out|refine zs_ ?_ GE374.out)|exact HB.out)));(case side2 => exact HC1_0.out);rintro e w91 ⟨v376,rfl,ho0,hb⟩;refine ⟨_,rfl,?_⟩;have n0_:=zm_ (Kd.R_below (by (with_reducible repeat (first|apply Kd.R_alloc|apply Kd.R_drewN|apply Kd.R_drew));exact (Kd.R_mono (Kd.R_far (p:=⟨gb374,0,none⟩) (Kd.R_types HO366.out BK374.out (by decide)) (fun _ hk => hk.2) (.slice Ao86 t371.length co86)) (fun _ h_ => h_.1))) hb);have n1_:=zm_ (Kd.S_elder' (by (with_reducible repeat (first|apply Kd.S_alloc|apply Kd.S_drewN|apply Kd.S_drew));exact (Kd.S_mono (Kd.S_far (p:=⟨gb374,0,none⟩) (Kd.S_types HO369.out BK374.out (by decide)) (fun _ hk => hk.2) (.slice Ao86 t371.length co86)) (fun _ h_ => h_.1))) (Kd.S_base ho0) hb);have n2_:=zm_ (Kd.R_below (by (with_reducible repeat (first|apply Kd.R_alloc|apply Kd.R_drewN|apply Kd.R_drew));exact (Kd.R_mono (Kd.R_far (p:=⟨gb374,0,none⟩) (Kd.R_types HO373.out BK374.out (by decide)) (fun _ hk => hk.2) (.slice Ao86 t371.length co86)) (fun _ h_ => h_.1))) hb);have n3_:=zm_ (Kd.S_lower (Kd.S_new' ho0 (Kd.S_lt (by (with_reducible repeat (first|apply Kd.S_alloc|apply Kd.S_drewN|apply Kd.S_drew));exact (Kd.S_mono (Kd.S_far (p:=⟨gb374,0,none⟩) (Kd.S_types HO369.out BK374.out (by decide)) (fun _ hk => hk.2) (.slice Ao86 t371.length co86)) (fun _ h_ => h_.1))))) (below_size (by repeat (first|(with_reducible first|exact HB.out|apply za_|apply zn_|apply zd_|refine zs_ ?_ GE360.out|refine zs_ ?_ GE361.out|refine zs_ ?_ GE374.out)|exact HB.out))));have n4_:=zm_ (blk_below (g:=gb360) (o:=.cells #[.slice A0_0 l0_0.length c0_0] 24 (0,0)) (by (with_reducible repeat first|refine zl_ ?_ _|refine zr_ ?_|refine zk_ ?_ _);refine blk_far ?_ NB360_374.out _;(with_reducible repeat first|refine zl_ ?_ _|refine zr_ ?_|refine zk_ ?_ _);exact BK360.out) hb);have n5_:=zm_ (blk_below (g:=gb361) (o:=.cells #[.slice A1_0 l1_0.length c1_0] 27 (0,0)) (by (with_reducible repeat first|refine zl_ ?_ _|refine zr_ ?_|refine zk_ ?_ _);refine blk_far ?_ NB361_374.out _;(with_reducible repeat first|refine zl_ ?_ _|refine zr_ ?_|refine zk_ ?_ _);exact BK361.out) hb);have n6_:=zm_ (blk_below (g:=gb374) (o:=.cells #[.slice Ao86 t371.length co86] 33 (0,0)) (by (with_reducible repeat first|refine zl_ ?_ _|refine zr_ ?_|refine zk_ ?_ _);refine blk_put (cs:=#[.slice none 0 0]) ?_ 0 _ rfl;(with_reducible repeat first|refine zl_ ?_ _|refine zr_ ?_|refine zk_ ?_ _);exact BK374.out) hb);have n7_:=zm_ (below_step (by repeat (first|(with_reducible first|exact HB.out|apply za_|apply zn_|apply zd_|refine zs_ ?_ GE360.out|refine zs_ ?_ GE361.out|refine zs_ ?_ GE374.out)|exact HB.out)) hb);clear HO366;clear HO369;clear HO373;clear BK360;clear BK361;clear BK374;clear HB;have HO366:=n0_;have HO369:=n1_;have HO373:=n2_;have HO377:=n3_;have BK360:=n4_;have BK361:=n5_;have BK374:=n6_;have HB:=n7_;clear n0_ n1_ n2_ n3_ n4_ n5_ n6_ n7_;(try clear hb);(try clear hb2);(try clear hk);(try clear hi);(try clear ho0))|((with_reducible refine gate_dst (N:=8) rfl ?_);refine box_event ?hg (N:=8) ?hd (cs:=#[.slice none 0 0]) (t:=37) ?hr ?_;(case hd => rfl);(case hg => rfl);(case hr => first|(go_simp;done)|(go_simp;rfl));intro gb378 hg w92 hbox hb;have n0_:=zm_ (Kd.R_below (by (with_reducible repeat (first|apply Kd.R_alloc|apply Kd.R_drewN|apply Kd.R_drew));exact HO366.out) hb);have n1_:=zm_ (Kd.S_below (by (with_reducible repeat (first|apply Kd.S_alloc|apply Kd.S_drewN|apply Kd.S_drew));exact HO369.out) hb);have n2_:=zm_ (Kd.R_below (by (with_reducible repeat (first|apply Kd.R_alloc|apply Kd.R_drewN|apply Kd.R_drew));exact HO373.out) hb);have n3_:=zm_ (Kd.S_below (by (with_reducible repeat (first|apply Kd.S_alloc|apply Kd.S_drewN|apply Kd.S_drew));exact HO377.out) hb);have n4_:=zm_ (blk_below (g:=gb360) (o:=.cells #[.slice A0_0 l0_0.length c0_0] 24 (0,0)) (by (with_reducible repeat first|refine zl_ ?_ _|refine zr_ ?_|refine zk_ ?_ _);exact BK360.out) hb);have n5_:=zm_ (blk_below (g:=gb361) (o:=.cells #[.slice A1_0 l1_0.length c1_0] 27 (0,0)) (by (with_reducible repeat first|refine zl_ ?_ _|refine zr_ ?_|refine zk_ ?_ _);exact BK361.out) hb);have n6_:=zm_ (blk_below (g:=gb374) (o:=.cells #[.slice Ao86 t371.length co86] 33 (0,0)) (by (with_reducible repeat first|refine zl_ ?_ _|refine zr_ ?_|refine zk_ ?_ _);exact BK374.out) hb);have n7_:=zm_ (below_step (by repeat (first|(with_reducible first|exact HB.out|apply za_|apply zn_|apply zd_|refine zs_ ?_ GE360.out|refine zs_ ?_ GE361.out|refine zs_ ?_ GE374.out)|exact HB.out)) hb);have n8_:=zm_ (hbox);have n9_:=zm_ ((by rw [hg];exact (below_size (by repeat (first|(with_reducible first|exact HB.out|apply za_|apply zn_|apply zd_|refine zs_ ?_ GE360.out|refine zs_ ?_ GE361.out|refine zs_ ?_ GE374.out)|exact HB.out))) : w.heap.size ≤ gb378));have n10_:=zm_ ((by rw [hg];exact (below_size (by repeat (first|(with_reducible first|exact HB.out|apply za_|apply zn_|apply zd_|refine zs_ ?_ GE360.out|refine zs_ ?_ GE361.out|refine zs_ ?_ GE374.out)|exact HB.out))) : w.heap.size ≤ gb378));have n11_:=zm_ ((by rw [hg];exact Nat.ne_of_lt (blk_lt (g:=gb360) (o:=.cells #[.slice A0_0 l0_0.length c0_0] 24 (0,0)) (by (with_reducible repeat first|refine zl_ ?_ _|refine zr_ ?_|refine zk_ ?_ _);exact BK360.out)) : gb360 ≠ gb378));have n12_:=zm_ ((by rw [hg];exact Nat.ne_of_gt (blk_lt (g:=gb360) (o:=.cells #[.slice A0_0 l0_0.length c0_0] 24 (0,0)) (by (with_reducible repeat first|refine zl_ ?_ _|refine zr_ ?_|refine zk_ ?_ _);exact BK360.out)) : gb378 ≠ gb360));have n13_:=zm_ ((by rw [hg];exact Nat.ne_of_lt (blk_lt (g:=gb361) (o:=.cells #[.slice A1_0 l1_0.length c1_0] 27 (0,0)) (by (with_reducible repeat first|refine zl_ ?_ _|refine zr_ ?_|refine zk_ ?_ _);exact BK361.out)) : gb361 ≠ gb378));have n14_:=zm_ ((by rw [hg];exact Nat.ne_of_gt (blk_lt (g:=gb361) (o:=.cells #[.slice A1_0 l1_0.length c1_0] 27 (0,0)) (by (with_reducible repeat first|refine zl_ ?_ _|refine zr_ ?_|refine zk_ ?_ _);exact BK361.out)) : gb378 ≠ gb361));have n15_:=zm_ ((by rw [hg];exact Nat.ne_of_lt (blk_lt (g:=gb374) (o:=.cells #[.slice Ao86 t371.length co86] 33 (0,0)) (by (with_reducible repeat first|refine zl_ ?_ _|refine zr_ ?_|refine zk_ ?_ _);exact BK374.out)) : gb374 ≠ gb378));have n16_:=zm_ ((by rw [hg];exact Nat.ne_of_gt (blk_lt (g:=gb374) (o:=.cells #[.slice Ao86 t371.length co86] 33 (0,0)) (by (with_reducible repeat first|refine zl_ ?_ _|refine zr_ ?_|refine zk_ ?_ _);exact BK374.out)) : gb378 ≠ gb374));clear HO366;clear HO369;clear HO373;clear HO377;clear BK360;clear BK361;clear BK374;clear HB;have HO366:=n0_;have HO369:=n1_;have HO373:=n2_;have HO377:=n3_;have BK360:=n4_;have BK361:=n5_;have BK374:=n6_;have HB:=n7_;have BK378:=n8_;have GW378:=n9_;have GE378:=n10_;have NB360_378:=n11_;have NB378_360:=n12_;have NB361_378:=n13_;have NB378_361:=n14_;have NB374_378:=n15_;have NB378_374:=n16_;clear n0_ n1_ n2_ n3_ n4_ n5_ n6_ n7_ n8_ n9_ n10_ n11_ n12_ n13_ n14_ n15_ n16_;clear hb hbox hg;obtain ⟨Ao93,co93,eo93⟩:=Kd.S_slice HO377.out;subst eo93;have hnb94:=NB378_360.out;have hnc94:=NB360_378.out;have hnb95:=NB378_361.out;have hnc95:=NB361_378.out;have hnb96:=NB378_374.out;have hnc96:=NB374_378.out;have hcz97_0 : w92.cell? ⟨gb378,0,none⟩ = some (.slice none 0 0):=(zc_ BK378.out 0).trans rfl;have hfz97_0:=zf_ BK378.out 0;have hcz98_0 : w92.cell? ⟨gb374,0,none⟩ = some (.slice Ao86 t371.length co86):=(zc_ BK374.out 0).trans rfl;have hfz98_0:=zf_ BK374.out 0)|((with_reducible refine gate_callee (f:=9) rfl ?_);refine goesL_ (some 31) rfl rfl Try.func9 (by kernel_rfl) rfl #[.agg #[.slice Ao86 t371.length co86],.agg #[.slice Ao93 t375.length co93]] rfl zq_ ?_;(with_reducible refine (impl_TreeText.calls k _ _ t371 _ _ t375 t379 _ ?side1 ?side2 ?side3 ?side4 A24.out).mono ?_);(case side1 => refine (Kd.R_reads' (e:=51) (base:=w.heap.size) (ok:=fun k_ => (True ∧ some k_ ≠ (.slice Ao80 t364.length co80 : Value).ownBlock)) (n:=t371.length) (c:=co86) ?_).2.2;exact (by (with_reducible repeat (first|apply Kd.R_alloc|apply Kd.R_drewN|apply Kd.R_drew));exact (Kd.R_mono (Kd.R_far (p:=⟨gb378,0,none⟩) (Kd.R_types HO373.out BK378.out (by decide)) (fun _ hk => hk.2) (.slice Ao93 t375.length co93)) (fun _ h_ => h_.1))));(case side2 => exact (Kd.R_reads' HO373.out).2.1);(case side3 => refine (Kd.S_reads' (e:=47) (base:=w.heap.size) (ok:=fun k_ => (True ∧ some k_ ≠ (.slice Ao81 t367.length co81 : Value).ownBlock)) (n:=t375.length) (c:=co93) ?_).2.2;exact (by (with_reducible repeat (first|apply Kd.S_alloc|apply Kd.S_drewN|apply Kd.S_drew));exact (Kd.S_mono (Kd.S_far (p:=⟨gb378,0,none⟩) (Kd.S_types HO377.out BK378.out (by decide)) (fun _ hk => hk.2) (.slice Ao93 t375.length co93)) (fun _ h_ => h_.1))));(case side4 => exact (Kd.S_reads' HO377.out).2.1);rintro e w99 ⟨rfl,hb⟩;refine ⟨_,rfl,?_⟩;have n0_:=zm_ (Kd.R_below (by (with_reducible repeat (first|apply Kd.R_alloc|apply Kd.R_drewN|apply Kd.R_drew));exact (Kd.R_mono (Kd.R_far (p:=⟨gb378,0,none⟩) (Kd.R_types HO366.out BK378.out (by decide)) (fun _ hk => hk.2) (.slice Ao93 t375.length co93)) (fun _ h_ => h_.1))) hb);have n1_:=zm_ (Kd.S_below (by (with_reducible repeat (first|apply Kd.S_alloc|apply Kd.S_drewN|apply Kd.S_drew));exact (Kd.S_mono (Kd.S_far (p:=⟨gb378,0,none⟩) (Kd.S_types HO369.out BK378.out (by decide)) (fun _ hk => hk.2) (.slice Ao93 t375.length co93)) (fun _ h_ => h_.1))) hb);have n2_:=zm_ (Kd.R_below (by (with_reducible repeat (first|apply Kd.R_alloc|apply Kd.R_drewN|apply Kd.R_drew));exact (Kd.R_mono (Kd.R_far (p:=⟨gb378,0,none⟩) (Kd.R_types HO373.out BK378.out (by decide)) (fun _ hk => hk.2) (.slice Ao93 t375.length co93)) (fun _ h_ => h_.1))) hb);have n3_:=zm_ (Kd.S_below (by (with_reducible repeat (first|apply Kd.S_alloc|apply Kd.S_drewN|apply Kd.S_drew));exact (Kd.S_mono (Kd.S_far (p:=⟨gb378,0,none⟩) (Kd.S_types HO377.out BK378.out (by decide)) (fun _ hk => hk.2) (.slice Ao93 t375.length co93)) (fun _ h_ => h_.1))) hb);have n4_:=zm_ (blk_below (g:=gb360) (o:=.cells #[.slice A0_0 l0_0.length c0_0] 24 (0,0)) (by (with_reducible repeat first|refine zl_ ?_ _|refine zr_ ?_|refine zk_ ?_ _);refine blk_far ?_ NB360_378.out _;(with_reducible repeat first|refine zl_ ?_ _|refine zr_ ?_|refine zk_ ?_ _);exact BK360.out) hb);have n5_:=zm_ (blk_below (g:=gb361) (o:=.cells #[.slice A1_0 l1_0.length c1_0] 27 (0,0)) (by (with_reducible repeat first|refine zl_ ?_ _|refine zr_ ?_|refine zk_ ?_ _);refine blk_far ?_ NB361_378.out _;(with_reducible repeat first|refine zl_ ?_ _|refine zr_ ?_|refine zk_ ?_ _);exact BK361.out) hb);have n6_:=zm_ (blk_below (g:=gb374) (o:=.cells #[.slice Ao86 t371.length co86] 33 (0,0)) (by (with_reducible repeat first|refine zl_ ?_ _|refine zr_ ?_|refine zk_ ?_ _);refine blk_far ?_ NB374_378.out _;(with_reducible repeat first|refine zl_ ?_ _|refine zr_ ?_|refine zk_ ?_ _);exact BK374.out) hb);have n7_:=zm_ (blk_below (g:=gb378) (o:=.cells #[.slice Ao93 t375.length co93] 37 (0,0)) (by (with_reducible repeat first|refine zl_ ?_ _|refine zr_ ?_|refine zk_ ?_ _);refine blk_put (cs:=#[.slice none 0 0]) ?_ 0 _ rfl;(with_reducible repeat first|refine zl_ ?_ _|refine zr_ ?_|refine zk_ ?_ _);exact BK378.out) hb);have n8_:=zm_ (below_step (by repeat (first|(with_reducible first|exact HB.out|apply za_|apply zn_|apply zd_|refine zs_ ?_ GE360.out|refine zs_ ?_ GE361.out|refine zs_ ?_ GE374.out|refine zs_ ?_ GE378.out)|exact HB.out)) hb);clear HO366;clear HO369;clear HO373;clear HO377;clear BK360;clear BK361;clear BK374;clear BK378;clear HB;have HO366:=n0_;have HO369:=n1_;have HO373:=n2_;have HO377:=n3_;have BK360:=n4_;have BK361:=n5_;have BK374:=n6_;have BK378:=n7_;have HB:=n8_;clear n0_ n1_ n2_ n3_ n4_ n5_ n6_ n7_ n8_;(try clear hb)))
      have n0_:=zm_ (Kd.R_drew HO366.out)
      have n1_:=zm_ (Kd.S_drew HO369.out)
      have n2_:=zm_ (Kd.R_drew HO373.out)
      have n3_:=zm_ (Kd.S_drew HO377.out)
      have n4_:=zm_ (zr_ BK360.out)
      have n5_:=zm_ (zr_ BK361.out)
      have n6_:=zm_ (zr_ BK374.out)
      have n7_:=zm_ (zr_ BK378.out)
      have n8_:=zm_ (zd_ HB.out)
      clear HO366
      clear HO369
      clear HO373
      clear HO377
      clear BK360
      clear BK361
      clear BK374
      clear BK378
      clear HB
      have HO366:=n0_
      have HO369:=n1_
      have HO373:=n2_
      have HO377:=n3_
      have BK360:=n4_
      have BK361:=n5_
      have BK374:=n6_
      have BK378:=n7_
      have HB:=n8_
      clear n0_ n1_ n2_ n3_ n4_ n5_ n6_ n7_ n8_
      refine start_ (n:=5) (S:=fun w' => w'.cell? ⟨gb374,0,none⟩ = some (.slice Ao86 t371.length co86) ∧ w'.cell? ⟨gb360,0,none⟩ = some (.slice A0_0 l0_0.length c0_0)) (ds:=[]) #[false,false,false,false,false] (by kernel_rfl) rfl rfl ⟨(zc_ BK374.out 0).trans rfl,(zc_ BK360.out 0).trans rfl⟩ (fun hHeld => ?_)
      generalize w99.drew = w100 at HO366 HO369 HO373 HO377 BK360 BK361 BK374 BK378 HB hHeld ⊢
      refine take_ (i:=0) (N:=some 35) (v:=?_) (a':=?_) #[true,false,false,false,false] rfl rfl (by kernel_rfl) (fun _ _ _ h => h) (Or.inl ⟨by rfl,?_⟩) hHeld ?_ ?_
      rotate_left
      ·rintro w' ⟨s0,s1⟩
       go_simp
       with_reducible rfl
      rotate_left
      ·simp only [Act.put,List.setIfInBounds_toArray,List.set_cons_zero,List.set_cons_succ,i64_w,i32_w,IntKind.wrap_u8]
       rfl
      refine take_ (i:=1) (N:=some 36) (v:=?_) (a':=?_) #[true,true,false,false,false] rfl rfl (by kernel_rfl) (fun _ _ _ h => h) (Or.inl ⟨by rfl,?_⟩) hHeld ?_ ?_
      rotate_left
      ·rintro w' ⟨s0,s1⟩
       go_simp
       with_reducible rfl
      rotate_left
      ·simp only [Act.put,List.setIfInBounds_toArray,List.set_cons_zero,List.set_cons_succ,i64_w,i32_w,IntKind.wrap_u8]
       rfl
      refine one_ (i:=2) (N:=some 37) #[true,true,true,false,false] rfl rfl (by kernel_rfl) (by decide) (fun K hK => ?_)
      refine goes_ Try.func7 (by kernel_rfl) rfl #[.agg #[.slice A0_0 l0_0.length c0_0]] (by rfl) rfl rfl zq_ ?_
      with_reducible refine (laws_toGrammar.calls k _ _ l0_0 t380 _ ?side1 ?side2 A26.out).mono ?_
      (case side1 => repeat (first|exact (Kd.C_below HR0_0.out HB.out)|(with_reducible refine Kd.C_alloc ?_ _)|(with_reducible refine Kd.C_drewN ?_ _)|(with_reducible refine Kd.C_drew ?_)))
      (case side2 => exact HC0_0.out)
      rintro e w101 ⟨v381,rfl,ho0,hb⟩
      refine ⟨_,rfl,?_⟩
      have n0_:=zm_ (Kd.R_elder' (by (with_reducible repeat (first|apply Kd.R_alloc|apply Kd.R_drewN|apply Kd.R_drew));exact HO366.out) (Kd.R_base ho0) hb)
      have n1_:=zm_ (Kd.S_below (by (with_reducible repeat (first|apply Kd.S_alloc|apply Kd.S_drewN|apply Kd.S_drew));exact HO369.out) hb)
      have n2_:=zm_ (Kd.R_elder' (by (with_reducible repeat (first|apply Kd.R_alloc|apply Kd.R_drewN|apply Kd.R_drew));exact HO373.out) (Kd.R_base ho0) hb)
      have n3_:=zm_ (Kd.S_below (by (with_reducible repeat (first|apply Kd.S_alloc|apply Kd.S_drewN|apply Kd.S_drew));exact HO377.out) hb)
      have n4_:=zm_ (Kd.R_lower (Kd.R_new' (Kd.R_new' ho0 (Kd.R_lt (by (with_reducible repeat (first|apply Kd.R_alloc|apply Kd.R_drewN|apply Kd.R_drew));exact HO366.out))) (Kd.R_lt (by (with_reducible repeat (first|apply Kd.R_alloc|apply Kd.R_drewN|apply Kd.R_drew));exact HO373.out))) (below_size (by repeat (first|(with_reducible first|exact HB.out|apply za_|apply zn_|apply zd_|refine zs_ ?_ GE360.out|refine zs_ ?_ GE361.out|refine zs_ ?_ GE374.out|refine zs_ ?_ GE378.out)|exact HB.out))))
      have n5_:=zm_ (blk_below (g:=gb360) (o:=.cells #[.slice A0_0 l0_0.length c0_0] 24 (0,0)) (by (with_reducible repeat first|refine zl_ ?_ _|refine zr_ ?_|refine zk_ ?_ _);exact BK360.out) hb)
      have n6_:=zm_ (blk_below (g:=gb361) (o:=.cells #[.slice A1_0 l1_0.length c1_0] 27 (0,0)) (by (with_reducible repeat first|refine zl_ ?_ _|refine zr_ ?_|refine zk_ ?_ _);exact BK361.out) hb)
      have n7_:=zm_ (blk_below (g:=gb374) (o:=.cells #[.slice Ao86 t371.length co86] 33 (0,0)) (by (with_reducible repeat first|refine zl_ ?_ _|refine zr_ ?_|refine zk_ ?_ _);exact BK374.out) hb)
      have n8_:=zm_ (blk_below (g:=gb378) (o:=.cells #[.slice Ao93 t375.length co93] 37 (0,0)) (by (with_reducible repeat first|refine zl_ ?_ _|refine zr_ ?_|refine zk_ ?_ _);exact BK378.out) hb)
      have n9_:=zm_ (below_step (by repeat (first|(with_reducible first|exact HB.out|apply za_|apply zn_|apply zd_|refine zs_ ?_ GE360.out|refine zs_ ?_ GE361.out|refine zs_ ?_ GE374.out|refine zs_ ?_ GE378.out)|exact HB.out)) hb)
      clear HO366
      clear HO369
      clear HO373
      clear HO377
      clear BK360
      clear BK361
      clear BK374
      clear BK378
      clear HB
      have HO366:=n0_
      have HO369:=n1_
      have HO373:=n2_
      have HO377:=n3_
      have HO382:=n4_
      have BK360:=n5_
      have BK361:=n6_
      have BK374:=n7_
      have BK378:=n8_
      have HB:=n9_
      clear n0_ n1_ n2_ n3_ n4_ n5_ n6_ n7_ n8_ n9_
      (try clear hb)
      (try clear hb2)
      (try clear hk)
      (try clear hi)
      (try clear ho0)
      obtain ⟨Ao102,co102,eo102⟩:=Kd.R_slice HO382.out
      (first|subst eo102|(injection eo102 with f1_ f2_ f3_;have f4_:=f1_.symm;have f5_:=f3_.symm;clear f1_ f2_ f3_;subst f4_;subst f5_))
      refine hK.out _ _ ⟨(zc_ BK374.out 0).trans rfl,(zc_ BK360.out 0).trans rfl⟩ (fun hHeld => ?_)
      clear hK K
      refine norm_ (a':=?_) ?_ ?_
      rotate_left
      ·show Act.put _ (some 37) _ = _
       simp only [Act.put,List.setIfInBounds_toArray,List.set_cons_zero,List.set_cons_succ,i64_w,i32_w,IntKind.wrap_u8]
       rfl
      refine one_ (i:=3) (N:=some 38) #[true,true,true,true,false] rfl rfl (by kernel_rfl) (by decide) (fun K hK => ?_)
      refine goes_ Try.func10 (by kernel_rfl) rfl #[.agg #[.slice Ao86 t371.length co86],.agg #[.slice Ao102 t380.length co102]] (by rfl) rfl rfl zq_ ?_
      with_reducible refine (laws_eqGrammar.calls k _ _ t371 _ _ t380 true _ ?side1 ?side2 ?side3 ?side4 A27.out).mono ?_
      (case side1 => repeat (first|exact (Kd.R_reads' HO373.out).2.2|(with_reducible refine Kd.C_alloc ?_ _)|(with_reducible refine Kd.C_drewN ?_ _)|(with_reducible refine Kd.C_drew ?_)))
      (case side2 => exact (Kd.R_reads' HO373.out).2.1)
      (case side3 => repeat (first|exact (Kd.R_reads' HO382.out).2.2|(with_reducible refine Kd.C_alloc ?_ _)|(with_reducible refine Kd.C_drewN ?_ _)|(with_reducible refine Kd.C_drew ?_)))
      (case side4 => exact (Kd.R_reads' HO382.out).2.1)
      rintro e w103 ⟨rfl,hb⟩
      refine ⟨_,rfl,?_⟩
      have n0_:=zm_ (Kd.R_below (by (with_reducible repeat (first|apply Kd.R_alloc|apply Kd.R_drewN|apply Kd.R_drew));exact HO366.out) hb)
      have n1_:=zm_ (Kd.S_below (by (with_reducible repeat (first|apply Kd.S_alloc|apply Kd.S_drewN|apply Kd.S_drew));exact HO369.out) hb)
      have n2_:=zm_ (Kd.R_below (by (with_reducible repeat (first|apply Kd.R_alloc|apply Kd.R_drewN|apply Kd.R_drew));exact HO373.out) hb)
      have n3_:=zm_ (Kd.S_below (by (with_reducible repeat (first|apply Kd.S_alloc|apply Kd.S_drewN|apply Kd.S_drew));exact HO377.out) hb)
      have n4_:=zm_ (Kd.R_below (by (with_reducible repeat (first|apply Kd.R_alloc|apply Kd.R_drewN|apply Kd.R_drew));exact HO382.out) hb)
      have n5_:=zm_ (blk_below (g:=gb360) (o:=.cells #[.slice A0_0 l0_0.length c0_0] 24 (0,0)) (by (with_reducible repeat first|refine zl_ ?_ _|refine zr_ ?_|refine zk_ ?_ _);exact BK360.out) hb)
      have n6_:=zm_ (blk_below (g:=gb361) (o:=.cells #[.slice A1_0 l1_0.length c1_0] 27 (0,0)) (by (with_reducible repeat first|refine zl_ ?_ _|refine zr_ ?_|refine zk_ ?_ _);exact BK361.out) hb)
      have n7_:=zm_ (blk_below (g:=gb374) (o:=.cells #[.slice Ao86 t371.length co86] 33 (0,0)) (by (with_reducible repeat first|refine zl_ ?_ _|refine zr_ ?_|refine zk_ ?_ _);exact BK374.out) hb)
      have n8_:=zm_ (blk_below (g:=gb378) (o:=.cells #[.slice Ao93 t375.length co93] 37 (0,0)) (by (with_reducible repeat first|refine zl_ ?_ _|refine zr_ ?_|refine zk_ ?_ _);exact BK378.out) hb)
      have n9_:=zm_ (below_step (by repeat (first|(with_reducible first|exact HB.out|apply za_|apply zn_|apply zd_|refine zs_ ?_ GE360.out|refine zs_ ?_ GE361.out|refine zs_ ?_ GE374.out|refine zs_ ?_ GE378.out)|exact HB.out)) hb)
      clear HO366
      clear HO369
      clear HO373
      clear HO377
      clear HO382
      clear BK360
      clear BK361
      clear BK374
      clear BK378
      clear HB
      have HO366:=n0_
      have HO369:=n1_
      have HO373:=n2_
      have HO377:=n3_
      have HO382:=n4_
      have BK360:=n5_
      have BK361:=n6_
      have BK374:=n7_
      have BK378:=n8_
      have HB:=n9_
      clear n0_ n1_ n2_ n3_ n4_ n5_ n6_ n7_ n8_ n9_
      (try clear hb)
      (try clear hb2)
      (try clear hk)
      (try clear hi)
      refine hK.out _ _ ⟨(zc_ BK374.out 0).trans rfl,(zc_ BK360.out 0).trans rfl⟩ (fun hHeld => ?_)
      clear hK K
      refine norm_ (a':=?_) ?_ ?_
      rotate_left
      ·show Act.put _ (some 38) _ = _
       simp only [Act.put,List.setIfInBounds_toArray,List.set_cons_zero,List.set_cons_succ,i64_w,i32_w,IntKind.wrap_u8]
       rfl
      refine pure_ (i:=4) (N:=some 39) (v:=?_) (a':=?_) #[true,true,true,true,true] rfl rfl (by kernel_rfl) (fun _ _ _ h => h) (Or.inl ⟨by rfl,?_⟩) ?_ ?_
      rotate_left
      ·intro w'
       go_simp
       with_reducible rfl
      rotate_left
      ·simp only [Act.put,List.setIfInBounds_toArray,List.set_cons_zero,List.set_cons_succ,i64_w,i32_w,IntKind.wrap_u8]
       rfl
      refine done_ (by kernel_rfl) ?_
      try go_wp2
      have n0_:=zm_ (Kd.R_drew HO366.out)
      have n1_:=zm_ (Kd.S_drew HO369.out)
      have n2_:=zm_ (Kd.R_drew HO373.out)
      have n3_:=zm_ (Kd.S_drew HO377.out)
      have n4_:=zm_ (Kd.R_drew HO382.out)
      have n5_:=zm_ (zr_ BK360.out)
      have n6_:=zm_ (zr_ BK361.out)
      have n7_:=zm_ (zr_ BK374.out)
      have n8_:=zm_ (zr_ BK378.out)
      have n9_:=zm_ (zd_ HB.out)
      clear HO366
      clear HO369
      clear HO373
      clear HO377
      clear HO382
      clear BK360
      clear BK361
      clear BK374
      clear BK378
      clear HB
      have HO366:=n0_
      have HO369:=n1_
      have HO373:=n2_
      have HO377:=n3_
      have HO382:=n4_
      have BK360:=n5_
      have BK361:=n6_
      have BK374:=n7_
      have BK378:=n8_
      have HB:=n9_
      clear n0_ n1_ n2_ n3_ n4_ n5_ n6_ n7_ n8_ n9_
      refine start_ (n:=5) (S:=fun w' => w'.cell? ⟨gb378,0,none⟩ = some (.slice Ao93 t375.length co93) ∧ w'.cell? ⟨gb361,0,none⟩ = some (.slice A1_0 l1_0.length c1_0)) (ds:=[]) #[false,false,false,false,false] (by kernel_rfl) rfl rfl ⟨(zc_ BK378.out 0).trans rfl,(zc_ BK361.out 0).trans rfl⟩ (fun hHeld => ?_)
      generalize w103.drew = w104 at HO366 HO369 HO373 HO377 HO382 BK360 BK361 BK374 BK378 HB hHeld ⊢
      refine take_ (i:=0) (N:=some 40) (v:=?_) (a':=?_) #[true,false,false,false,false] rfl rfl (by kernel_rfl) (fun _ _ _ h => h) (Or.inl ⟨by rfl,?_⟩) hHeld ?_ ?_
      rotate_left
      ·rintro w' ⟨s0,s1⟩
       go_simp
       with_reducible rfl
      rotate_left
      ·simp only [Act.put,List.setIfInBounds_toArray,List.set_cons_zero,List.set_cons_succ,i64_w,i32_w,IntKind.wrap_u8]
       rfl
      refine take_ (i:=1) (N:=some 41) (v:=?_) (a':=?_) #[true,true,false,false,false] rfl rfl (by kernel_rfl) (fun _ _ _ h => h) (Or.inl ⟨by rfl,?_⟩) hHeld ?_ ?_
      rotate_left
      ·rintro w' ⟨s0,s1⟩
       go_simp
       with_reducible rfl
      rotate_left
      ·simp only [Act.put,List.setIfInBounds_toArray,List.set_cons_zero,List.set_cons_succ,i64_w,i32_w,IntKind.wrap_u8]
       rfl
      refine one_ (i:=2) (N:=some 42) #[true,true,true,false,false] rfl rfl (by kernel_rfl) (by decide) (fun K hK => ?_)
      refine goes_ Try.func8 (by kernel_rfl) rfl #[.agg #[.slice A1_0 l1_0.length c1_0]] (by rfl) rfl rfl zq_ ?_
      with_reducible refine (laws_toTree.calls k _ _ l1_0 t384 _ ?side1 ?side2 A29.out).mono ?_
      (case side1 => repeat (first|exact (Kd.C_below HR1_0.out HB.out)|(with_reducible refine Kd.C_alloc ?_ _)|(with_reducible refine Kd.C_drewN ?_ _)|(with_reducible refine Kd.C_drew ?_)))
      (case side2 => exact HC1_0.out)
      rintro e w105 ⟨v385,rfl,ho0,hb⟩
      refine ⟨_,rfl,?_⟩
      have n0_:=zm_ (Kd.R_below (by (with_reducible repeat (first|apply Kd.R_alloc|apply Kd.R_drewN|apply Kd.R_drew));exact HO366.out) hb)
      have n1_:=zm_ (Kd.S_elder' (by (with_reducible repeat (first|apply Kd.S_alloc|apply Kd.S_drewN|apply Kd.S_drew));exact HO369.out) (Kd.S_base ho0) hb)
      have n2_:=zm_ (Kd.R_below (by (with_reducible repeat (first|apply Kd.R_alloc|apply Kd.R_drewN|apply Kd.R_drew));exact HO373.out) hb)
      have n3_:=zm_ (Kd.S_elder' (by (with_reducible repeat (first|apply Kd.S_alloc|apply Kd.S_drewN|apply Kd.S_drew));exact HO377.out) (Kd.S_base ho0) hb)
      have n4_:=zm_ (Kd.R_below (by (with_reducible repeat (first|apply Kd.R_alloc|apply Kd.R_drewN|apply Kd.R_drew));exact HO382.out) hb)
      have n5_:=zm_ (Kd.S_lower (Kd.S_new' (Kd.S_new' ho0 (Kd.S_lt (by (with_reducible repeat (first|apply Kd.S_alloc|apply Kd.S_drewN|apply Kd.S_drew));exact HO369.out))) (Kd.S_lt (by (with_reducible repeat (first|apply Kd.S_alloc|apply Kd.S_drewN|apply Kd.S_drew));exact HO377.out))) (below_size (by repeat (first|(with_reducible first|exact HB.out|apply za_|apply zn_|apply zd_|refine zs_ ?_ GE360.out|refine zs_ ?_ GE361.out|refine zs_ ?_ GE374.out|refine zs_ ?_ GE378.out)|exact HB.out))))
      have n6_:=zm_ (blk_below (g:=gb360) (o:=.cells #[.slice A0_0 l0_0.length c0_0] 24 (0,0)) (by (with_reducible repeat first|refine zl_ ?_ _|refine zr_ ?_|refine zk_ ?_ _);exact BK360.out) hb)
      have n7_:=zm_ (blk_below (g:=gb361) (o:=.cells #[.slice A1_0 l1_0.length c1_0] 27 (0,0)) (by (with_reducible repeat first|refine zl_ ?_ _|refine zr_ ?_|refine zk_ ?_ _);exact BK361.out) hb)
      have n8_:=zm_ (blk_below (g:=gb374) (o:=.cells #[.slice Ao86 t371.length co86] 33 (0,0)) (by (with_reducible repeat first|refine zl_ ?_ _|refine zr_ ?_|refine zk_ ?_ _);exact BK374.out) hb)
      have n9_:=zm_ (blk_below (g:=gb378) (o:=.cells #[.slice Ao93 t375.length co93] 37 (0,0)) (by (with_reducible repeat first|refine zl_ ?_ _|refine zr_ ?_|refine zk_ ?_ _);exact BK378.out) hb)
      have n10_:=zm_ (below_step (by repeat (first|(with_reducible first|exact HB.out|apply za_|apply zn_|apply zd_|refine zs_ ?_ GE360.out|refine zs_ ?_ GE361.out|refine zs_ ?_ GE374.out|refine zs_ ?_ GE378.out)|exact HB.out)) hb)
      clear HO366
      clear HO369
      clear HO373
      clear HO377
      clear HO382
      clear BK360
      clear BK361
      clear BK374
      clear BK378
      clear HB
      have HO366:=n0_
      have HO369:=n1_
      have HO373:=n2_
      have HO377:=n3_
      have HO382:=n4_
      have HO386:=n5_
      have BK360:=n6_
      have BK361:=n7_
      have BK374:=n8_
      have BK378:=n9_
      have HB:=n10_
      clear n0_ n1_ n2_ n3_ n4_ n5_ n6_ n7_ n8_ n9_ n10_
      (try clear hb)
      (try clear hb2)
      (try clear hk)
      (try clear hi)
      (try clear ho0)
      obtain ⟨Ao106,co106,eo106⟩:=Kd.S_slice HO386.out
      (first|subst eo106|(injection eo106 with f1_ f2_ f3_;have f4_:=f1_.symm;have f5_:=f3_.symm;clear f1_ f2_ f3_;subst f4_;subst f5_))
      refine hK.out _ _ ⟨(zc_ BK378.out 0).trans rfl,(zc_ BK361.out 0).trans rfl⟩ (fun hHeld => ?_)
      clear hK K
      refine norm_ (a':=?_) ?_ ?_
      rotate_left
      ·show Act.put _ (some 42) _ = _
       simp only [Act.put,List.setIfInBounds_toArray,List.set_cons_zero,List.set_cons_succ,i64_w,i32_w,IntKind.wrap_u8]
       rfl
      refine one_ (i:=3) (N:=some 43) #[true,true,true,true,false] rfl rfl (by kernel_rfl) (by decide) (fun K hK => ?_)
      refine goes_ Try.func11 (by kernel_rfl) rfl #[.agg #[.slice Ao93 t375.length co93],.agg #[.slice Ao106 t384.length co106]] (by rfl) rfl rfl zq_ ?_
      with_reducible refine (laws_eqTree.calls k _ _ t375 _ _ t384 false _ ?side1 ?side2 ?side3 ?side4 A30.out).mono ?_
      (case side1 => repeat (first|exact (Kd.S_reads' HO377.out).2.2|(with_reducible refine Kd.C_alloc ?_ _)|(with_reducible refine Kd.C_drewN ?_ _)|(with_reducible refine Kd.C_drew ?_)))
      (case side2 => exact (Kd.S_reads' HO377.out).2.1)
      (case side3 => repeat (first|exact (Kd.S_reads' HO386.out).2.2|(with_reducible refine Kd.C_alloc ?_ _)|(with_reducible refine Kd.C_drewN ?_ _)|(with_reducible refine Kd.C_drew ?_)))
      (case side4 => exact (Kd.S_reads' HO386.out).2.1)
      rintro e w107 ⟨rfl,hb⟩
      refine ⟨_,rfl,?_⟩
      have n0_:=zm_ (Kd.R_below (by (with_reducible repeat (first|apply Kd.R_alloc|apply Kd.R_drewN|apply Kd.R_drew));exact HO366.out) hb)
      have n1_:=zm_ (Kd.S_below (by (with_reducible repeat (first|apply Kd.S_alloc|apply Kd.S_drewN|apply Kd.S_drew));exact HO369.out) hb)
      have n2_:=zm_ (Kd.R_below (by (with_reducible repeat (first|apply Kd.R_alloc|apply Kd.R_drewN|apply Kd.R_drew));exact HO373.out) hb)
      have n3_:=zm_ (Kd.S_below (by (with_reducible repeat (first|apply Kd.S_alloc|apply Kd.S_drewN|apply Kd.S_drew));exact HO377.out) hb)
      have n4_:=zm_ (Kd.R_below (by (with_reducible repeat (first|apply Kd.R_alloc|apply Kd.R_drewN|apply Kd.R_drew));exact HO382.out) hb)
      have n5_:=zm_ (Kd.S_below (by (with_reducible repeat (first|apply Kd.S_alloc|apply Kd.S_drewN|apply Kd.S_drew));exact HO386.out) hb)
      have n6_:=zm_ (blk_below (g:=gb360) (o:=.cells #[.slice A0_0 l0_0.length c0_0] 24 (0,0)) (by (with_reducible repeat first|refine zl_ ?_ _|refine zr_ ?_|refine zk_ ?_ _);exact BK360.out) hb)
      have n7_:=zm_ (blk_below (g:=gb361) (o:=.cells #[.slice A1_0 l1_0.length c1_0] 27 (0,0)) (by (with_reducible repeat first|refine zl_ ?_ _|refine zr_ ?_|refine zk_ ?_ _);exact BK361.out) hb)
      have n8_:=zm_ (blk_below (g:=gb374) (o:=.cells #[.slice Ao86 t371.length co86] 33 (0,0)) (by (with_reducible repeat first|refine zl_ ?_ _|refine zr_ ?_|refine zk_ ?_ _);exact BK374.out) hb)
      have n9_:=zm_ (blk_below (g:=gb378) (o:=.cells #[.slice Ao93 t375.length co93] 37 (0,0)) (by (with_reducible repeat first|refine zl_ ?_ _|refine zr_ ?_|refine zk_ ?_ _);exact BK378.out) hb)
      have n10_:=zm_ (below_step (by repeat (first|(with_reducible first|exact HB.out|apply za_|apply zn_|apply zd_|refine zs_ ?_ GE360.out|refine zs_ ?_ GE361.out|refine zs_ ?_ GE374.out|refine zs_ ?_ GE378.out)|exact HB.out)) hb)
      clear HO366
      clear HO369
      clear HO373
      clear HO377
      clear HO382
      clear HO386
      clear BK360
      clear BK361
      clear BK374
      clear BK378
      clear HB
      have HO366:=n0_
      have HO369:=n1_
      have HO373:=n2_
      have HO377:=n3_
      have HO382:=n4_
      have HO386:=n5_
      have BK360:=n6_
      have BK361:=n7_
      have BK374:=n8_
      have BK378:=n9_
      have HB:=n10_
      clear n0_ n1_ n2_ n3_ n4_ n5_ n6_ n7_ n8_ n9_ n10_
      (try clear hb)
      (try clear hb2)
      (try clear hk)
      (try clear hi)
      refine hK.out _ _ ⟨(zc_ BK378.out 0).trans rfl,(zc_ BK361.out 0).trans rfl⟩ (fun hHeld => ?_)
      clear hK K
      refine norm_ (a':=?_) ?_ ?_
      rotate_left
      ·show Act.put _ (some 43) _ = _
       simp only [Act.put,List.setIfInBounds_toArray,List.set_cons_zero,List.set_cons_succ,i64_w,i32_w,IntKind.wrap_u8]
       rfl
      refine pure_ (i:=4) (N:=some 44) (v:=?_) (a':=?_) #[true,true,true,true,true] rfl rfl (by kernel_rfl) (fun _ _ _ h => h) (Or.inl ⟨by rfl,?_⟩) ?_ ?_
      rotate_left
      ·intro w'
       go_simp
       with_reducible rfl
      rotate_left
      ·simp only [Act.put,List.setIfInBounds_toArray,List.set_cons_zero,List.set_cons_succ,i64_w,i32_w,IntKind.wrap_u8]
       rfl
      refine done_ (by kernel_rfl) ?_
      try go_wp2
      go_ret
      exact ⟨zE_,by repeat (first|(with_reducible first|exact HB.out|apply za_|apply zn_|apply zd_|refine zs_ ?_ GE360.out|refine zs_ ?_ GE361.out|refine zs_ ?_ GE374.out|refine zs_ ?_ GE378.out)|exact HB.out)⟩
    ·replace c28:=Bool.eq_false_iff.mpr c28
     subst c28
     have H1 : (some false) = some r:=by rw [if_neg (show ¬ (false = true) by decide)] at H;exact H
     clear H
     have H:=H1
     clear H1
     obtain rfl:=Option.some.inj H
     go_enter Try.func3,Try.ntmps3
     try go_wp2_with (first|((with_reducible refine gate_dst (N:=2) rfl ?_);refine box_event ?hg (N:=2) ?hd (cs:=#[.slice A0_0 l0_0.length c0_0]) (t:=24) ?hr ?_;(case hd => rfl);(case hg => rfl);(case hr => first|(go_simp;done)|(go_simp;rfl));intro gb360 hg w108 hbox hb;have n0_:=zm_ (below_step zB_ hb);have n1_:=zm_ (hbox);have n2_:=zm_ ((by rw [hg];exact (below_size zB_) : w.heap.size ≤ gb360));have n3_:=zm_ ((by rw [hg];exact (below_size zB_) : w.heap.size ≤ gb360));clear HB;have HB:=n0_;have BK360:=n1_;have GW360:=n2_;have GE360:=n3_;clear n0_ n1_ n2_ n3_;clear hb hbox hg)|((with_reducible refine gate_dst (N:=3) rfl ?_);refine box_event ?hg (N:=3) ?hd (cs:=#[.slice A1_0 l1_0.length c1_0]) (t:=27) ?hr ?_;(case hd => rfl);(case hg => rfl);(case hr => first|(go_simp;done)|(go_simp;rfl));intro gb361 hg w109 hbox hb;have n0_:=zm_ (blk_below (g:=gb360) (o:=.cells #[.slice A0_0 l0_0.length c0_0] 24 (0,0)) (by (with_reducible repeat first|refine zl_ ?_ _|refine zr_ ?_|refine zk_ ?_ _);exact BK360.out) hb);have n1_:=zm_ (below_step (by repeat (first|(with_reducible first|exact HB.out|apply za_|apply zn_|apply zd_|refine zs_ ?_ GE360.out)|exact HB.out)) hb);have n2_:=zm_ (hbox);have n3_:=zm_ ((by rw [hg];exact (below_size (by repeat (first|(with_reducible first|exact HB.out|apply za_|apply zn_|apply zd_|refine zs_ ?_ GE360.out)|exact HB.out))) : w.heap.size ≤ gb361));have n4_:=zm_ ((by rw [hg];exact (below_size (by repeat (first|(with_reducible first|exact HB.out|apply za_|apply zn_|apply zd_|refine zs_ ?_ GE360.out)|exact HB.out))) : w.heap.size ≤ gb361));have n5_:=zm_ ((by rw [hg];exact Nat.ne_of_lt (blk_lt (g:=gb360) (o:=.cells #[.slice A0_0 l0_0.length c0_0] 24 (0,0)) (by (with_reducible repeat first|refine zl_ ?_ _|refine zr_ ?_|refine zk_ ?_ _);exact BK360.out)) : gb360 ≠ gb361));have n6_:=zm_ ((by rw [hg];exact Nat.ne_of_gt (blk_lt (g:=gb360) (o:=.cells #[.slice A0_0 l0_0.length c0_0] 24 (0,0)) (by (with_reducible repeat first|refine zl_ ?_ _|refine zr_ ?_|refine zk_ ?_ _);exact BK360.out)) : gb361 ≠ gb360));clear BK360;clear HB;have BK360:=n0_;have HB:=n1_;have BK361:=n2_;have GW361:=n3_;have GE361:=n4_;have NB360_361:=n5_;have NB361_360:=n6_;clear n0_ n1_ n2_ n3_ n4_ n5_ n6_;clear hb hbox hg;have hnb110:=NB360_361.out;have hnc110:=NB361_360.out;have hcz111_0 : w109.cell? ⟨gb360,0,none⟩ = some (.slice A0_0 l0_0.length c0_0):=(zc_ BK360.out 0).trans rfl;have hfz111_0:=zf_ BK360.out 0)|((with_reducible refine gate_callee (f:=4) rfl ?_);refine goesL_ (some 12) rfl rfl Try.func4 (by kernel_rfl) rfl #[.agg #[.slice A0_0 l0_0.length c0_0],.int .i64 1048576] rfl zq_ ?_;(with_reducible refine (laws_szGrammar.calls k _ _ l0_0 1048576 t362 _ ?side1 ?side2 A3.out).mono ?_);(case side1 => repeat (first|exact (Kd.C_below HR0_0.out HB.out)|(with_reducible refine Kd.C_alloc ?_ _)|(with_reducible refine Kd.C_drewN ?_ _)|(with_reducible refine Kd.C_drew ?_)));(case side2 => exact HC0_0.out);rintro e w112 ⟨rfl,hb⟩;refine ⟨_,rfl,?_⟩;have n0_:=zm_ (blk_below (g:=gb360) (o:=.cells #[.slice A0_0 l0_0.length c0_0] 24 (0,0)) (by (with_reducible repeat first|refine zl_ ?_ _|refine zr_ ?_|refine zk_ ?_ _);exact BK360.out) hb);have n1_:=zm_ (blk_below (g:=gb361) (o:=.cells #[.slice A1_0 l1_0.length c1_0] 27 (0,0)) (by (with_reducible repeat first|refine zl_ ?_ _|refine zr_ ?_|refine zk_ ?_ _);exact BK361.out) hb);have n2_:=zm_ (below_step (by repeat (first|(with_reducible first|exact HB.out|apply za_|apply zn_|apply zd_|refine zs_ ?_ GE360.out|refine zs_ ?_ GE361.out)|exact HB.out)) hb);clear BK360;clear BK361;clear HB;have BK360:=n0_;have BK361:=n1_;have HB:=n2_;clear n0_ n1_ n2_;(try clear hb);have hcz113_0 : w112.cell? ⟨gb361,0,none⟩ = some (.slice A1_0 l1_0.length c1_0):=(zc_ BK361.out 0).trans rfl;have hfz113_0:=zf_ BK361.out 0)|((with_reducible refine gate_callee (f:=5) rfl ?_);refine goesL_ (some 17) rfl rfl Try.func5 (by kernel_rfl) rfl #[.agg #[.slice A1_0 l1_0.length c1_0],.int .i64 t362] rfl zq_ ?_;(with_reducible refine (laws_szTree.calls k _ _ l1_0 t362 t363 _ ?side1 ?side2 A10.out).mono ?_);(case side1 => repeat (first|exact (Kd.C_below HR1_0.out HB.out)|(with_reducible refine Kd.C_alloc ?_ _)|(with_reducible refine Kd.C_drewN ?_ _)|(with_reducible refine Kd.C_drew ?_)));(case side2 => exact HC1_0.out);rintro e w114 ⟨rfl,hb⟩;refine ⟨_,rfl,?_⟩;have n0_:=zm_ (blk_below (g:=gb360) (o:=.cells #[.slice A0_0 l0_0.length c0_0] 24 (0,0)) (by (with_reducible repeat first|refine zl_ ?_ _|refine zr_ ?_|refine zk_ ?_ _);exact BK360.out) hb);have n1_:=zm_ (blk_below (g:=gb361) (o:=.cells #[.slice A1_0 l1_0.length c1_0] 27 (0,0)) (by (with_reducible repeat first|refine zl_ ?_ _|refine zr_ ?_|refine zk_ ?_ _);exact BK361.out) hb);have n2_:=zm_ (below_step (by repeat (first|(with_reducible first|exact HB.out|apply za_|apply zn_|apply zd_|refine zs_ ?_ GE360.out|refine zs_ ?_ GE361.out)|exact HB.out)) hb);clear BK360;clear BK361;clear HB;have BK360:=n0_;have BK361:=n1_;have HB:=n2_;clear n0_ n1_ n2_;(try clear hb)))
     have n0_:=zm_ (zr_ BK360.out)
     have n1_:=zm_ (zr_ BK361.out)
     have n2_:=zm_ (zd_ HB.out)
     clear BK360
     clear BK361
     clear HB
     have BK360:=n0_
     have BK361:=n1_
     have HB:=n2_
     clear n0_ n1_ n2_
     refine start_ (n:=6) (S:=fun w' => w'.cell? ⟨gb360,0,none⟩ = some (.slice A0_0 l0_0.length c0_0) ∧ w'.cell? ⟨gb361,0,none⟩ = some (.slice A1_0 l1_0.length c1_0)) (ds:=[]) #[false,false,false,false,false,false] (by kernel_rfl) rfl rfl ⟨(zc_ BK360.out 0).trans rfl,(zc_ BK361.out 0).trans rfl⟩ (fun hHeld => ?_)
     generalize w114.drew = w115 at BK360 BK361 HB hHeld ⊢
     refine take_ (i:=0) (N:=some 20) (v:=?_) (a':=?_) #[true,false,false,false,false,false] rfl rfl (by kernel_rfl) (fun _ _ _ h => h) (Or.inl ⟨by rfl,?_⟩) hHeld ?_ ?_
     rotate_left
     ·rintro w' ⟨s0,s1⟩
      go_simp
      with_reducible rfl
     rotate_left
     ·simp only [Act.put,List.setIfInBounds_toArray,List.set_cons_zero,List.set_cons_succ,i64_w,i32_w,IntKind.wrap_u8]
      rfl
     refine take_ (i:=2) (N:=some 22) (v:=?_) (a':=?_) #[true,false,true,false,false,false] rfl rfl (by kernel_rfl) (fun _ _ _ h => h) (Or.inl ⟨by rfl,?_⟩) hHeld ?_ ?_
     rotate_left
     ·rintro w' ⟨s0,s1⟩
      go_simp
      with_reducible rfl
     rotate_left
     ·simp only [Act.put,List.setIfInBounds_toArray,List.set_cons_zero,List.set_cons_succ,i64_w,i32_w,IntKind.wrap_u8]
      rfl
     refine one_ (i:=1) (N:=some 21) #[true,true,true,false,false,false] rfl rfl (by kernel_rfl) (by decide) (fun K hK => ?_)
     refine goes_ Try.func7 (by kernel_rfl) rfl #[.agg #[.slice A0_0 l0_0.length c0_0]] (by rfl) rfl rfl zq_ ?_
     with_reducible refine (laws_toGrammar.calls k _ _ l0_0 t364 _ ?side1 ?side2 A19.out).mono ?_
     (case side1 => repeat (first|exact (Kd.C_below HR0_0.out HB.out)|(with_reducible refine Kd.C_alloc ?_ _)|(with_reducible refine Kd.C_drewN ?_ _)|(with_reducible refine Kd.C_drew ?_)))
     (case side2 => exact HC0_0.out)
     rintro e w116 ⟨v365,rfl,ho0,hb⟩
     refine ⟨_,rfl,?_⟩
     have n0_:=zm_ (Kd.R_lower ho0 (below_size (by repeat (first|(with_reducible first|exact HB.out|apply za_|apply zn_|apply zd_|refine zs_ ?_ GE360.out|refine zs_ ?_ GE361.out)|exact HB.out))))
     have n1_:=zm_ (blk_below (g:=gb360) (o:=.cells #[.slice A0_0 l0_0.length c0_0] 24 (0,0)) (by (with_reducible repeat first|refine zl_ ?_ _|refine zr_ ?_|refine zk_ ?_ _);exact BK360.out) hb)
     have n2_:=zm_ (blk_below (g:=gb361) (o:=.cells #[.slice A1_0 l1_0.length c1_0] 27 (0,0)) (by (with_reducible repeat first|refine zl_ ?_ _|refine zr_ ?_|refine zk_ ?_ _);exact BK361.out) hb)
     have n3_:=zm_ (below_step (by repeat (first|(with_reducible first|exact HB.out|apply za_|apply zn_|apply zd_|refine zs_ ?_ GE360.out|refine zs_ ?_ GE361.out)|exact HB.out)) hb)
     clear BK360
     clear BK361
     clear HB
     have HO366:=n0_
     have BK360:=n1_
     have BK361:=n2_
     have HB:=n3_
     clear n0_ n1_ n2_ n3_
     (try clear hb)
     (try clear hb2)
     (try clear hk)
     (try clear hi)
     (try clear ho0)
     refine hK.out _ _ ⟨(zc_ BK360.out 0).trans rfl,(zc_ BK361.out 0).trans rfl⟩ (fun hHeld => ?_)
     clear hK K
     refine norm_ (a':=?_) ?_ ?_
     rotate_left
     ·show Act.put _ (some 21) _ = _
      simp only [Act.put,List.setIfInBounds_toArray,List.set_cons_zero,List.set_cons_succ,i64_w,i32_w,IntKind.wrap_u8]
      rfl
     refine one_ (i:=3) (N:=some 23) #[true,true,true,true,false,false] rfl rfl (by kernel_rfl) (by decide) (fun K hK => ?_)
     refine goes_ Try.func8 (by kernel_rfl) rfl #[.agg #[.slice A1_0 l1_0.length c1_0]] (by rfl) rfl rfl zq_ ?_
     with_reducible refine (laws_toTree.calls k _ _ l1_0 t367 _ ?side1 ?side2 A20.out).mono ?_
     (case side1 => repeat (first|exact (Kd.C_below HR1_0.out HB.out)|(with_reducible refine Kd.C_alloc ?_ _)|(with_reducible refine Kd.C_drewN ?_ _)|(with_reducible refine Kd.C_drew ?_)))
     (case side2 => exact HC1_0.out)
     rintro e w117 ⟨v368,rfl,ho0,hb⟩
     refine ⟨_,rfl,?_⟩
     have n0_:=zm_ (Kd.R_below (by (with_reducible repeat (first|apply Kd.R_alloc|apply Kd.R_drewN|apply Kd.R_drew));exact HO366.out) hb)
     have n1_:=zm_ (Kd.S_lower ho0 (below_size (by repeat (first|(with_reducible first|exact HB.out|apply za_|apply zn_|apply zd_|refine zs_ ?_ GE360.out|refine zs_ ?_ GE361.out)|exact HB.out))))
     have n2_:=zm_ (blk_below (g:=gb360) (o:=.cells #[.slice A0_0 l0_0.length c0_0] 24 (0,0)) (by (with_reducible repeat first|refine zl_ ?_ _|refine zr_ ?_|refine zk_ ?_ _);exact BK360.out) hb)
     have n3_:=zm_ (blk_below (g:=gb361) (o:=.cells #[.slice A1_0 l1_0.length c1_0] 27 (0,0)) (by (with_reducible repeat first|refine zl_ ?_ _|refine zr_ ?_|refine zk_ ?_ _);exact BK361.out) hb)
     have n4_:=zm_ (below_step (by repeat (first|(with_reducible first|exact HB.out|apply za_|apply zn_|apply zd_|refine zs_ ?_ GE360.out|refine zs_ ?_ GE361.out)|exact HB.out)) hb)
     clear HO366
     clear BK360
     clear BK361
     clear HB
     have HO366:=n0_
     have HO369:=n1_
     have BK360:=n2_
     have BK361:=n3_
     have HB:=n4_
     clear n0_ n1_ n2_ n3_ n4_
     (try clear hb)
     (try clear hb2)
     (try clear hk)
     (try clear hi)
     (try clear ho0)
     obtain ⟨Ao118,co118,eo118⟩:=Kd.R_slice HO366.out
     (first|subst eo118|(injection eo118 with f1_ f2_ f3_;have f4_:=f1_.symm;have f5_:=f3_.symm;clear f1_ f2_ f3_;subst f4_;subst f5_))
     obtain ⟨Ao119,co119,eo119⟩:=Kd.S_slice HO369.out
     (first|subst eo119|(injection eo119 with f1_ f2_ f3_;have f4_:=f1_.symm;have f5_:=f3_.symm;clear f1_ f2_ f3_;subst f4_;subst f5_))
     refine hK.out _ _ ⟨(zc_ BK360.out 0).trans rfl,(zc_ BK361.out 0).trans rfl⟩ (fun hHeld => ?_)
     clear hK K
     refine norm_ (a':=?_) ?_ ?_
     rotate_left
     ·show Act.put _ (some 23) _ = _
      simp only [Act.put,List.setIfInBounds_toArray,List.set_cons_zero,List.set_cons_succ,i64_w,i32_w,IntKind.wrap_u8]
      rfl
     refine one_ (i:=4) (N:=some 24) #[true,true,true,true,true,false] rfl rfl (by kernel_rfl) (by decide) (fun K hK => ?_)
     refine goes_ Try.func6 (by kernel_rfl) rfl #[.agg #[.slice Ao118 t364.length co118],.agg #[.slice Ao119 t367.length co119]] (by rfl) rfl rfl zq_ ?_
     with_reducible refine (spec_TreeText.calls k _ _ t364 _ _ t367 t370 _ ?side1 ?side2 ?side3 ?side4 A21.out).mono ?_
     (case side1 => repeat (first|exact (Kd.R_reads' HO366.out).2.2|(with_reducible refine Kd.C_alloc ?_ _)|(with_reducible refine Kd.C_drewN ?_ _)|(with_reducible refine Kd.C_drew ?_)))
     (case side2 => exact (Kd.R_reads' HO366.out).2.1)
     (case side3 => repeat (first|exact (Kd.S_reads' HO369.out).2.2|(with_reducible refine Kd.C_alloc ?_ _)|(with_reducible refine Kd.C_drewN ?_ _)|(with_reducible refine Kd.C_drew ?_)))
     (case side4 => exact (Kd.S_reads' HO369.out).2.1)
     rintro e w120 ⟨rfl,hb⟩
     refine ⟨_,rfl,?_⟩
     have n0_:=zm_ (Kd.R_below (by (with_reducible repeat (first|apply Kd.R_alloc|apply Kd.R_drewN|apply Kd.R_drew));exact HO366.out) hb)
     have n1_:=zm_ (Kd.S_below (by (with_reducible repeat (first|apply Kd.S_alloc|apply Kd.S_drewN|apply Kd.S_drew));exact HO369.out) hb)
     have n2_:=zm_ (blk_below (g:=gb360) (o:=.cells #[.slice A0_0 l0_0.length c0_0] 24 (0,0)) (by (with_reducible repeat first|refine zl_ ?_ _|refine zr_ ?_|refine zk_ ?_ _);exact BK360.out) hb)
     have n3_:=zm_ (blk_below (g:=gb361) (o:=.cells #[.slice A1_0 l1_0.length c1_0] 27 (0,0)) (by (with_reducible repeat first|refine zl_ ?_ _|refine zr_ ?_|refine zk_ ?_ _);exact BK361.out) hb)
     have n4_:=zm_ (below_step (by repeat (first|(with_reducible first|exact HB.out|apply za_|apply zn_|apply zd_|refine zs_ ?_ GE360.out|refine zs_ ?_ GE361.out)|exact HB.out)) hb)
     clear HO366
     clear HO369
     clear BK360
     clear BK361
     clear HB
     have HO366:=n0_
     have HO369:=n1_
     have BK360:=n2_
     have BK361:=n3_
     have HB:=n4_
     clear n0_ n1_ n2_ n3_ n4_
     (try clear hb)
     (try clear hb2)
     (try clear hk)
     (try clear hi)
     refine hK.out _ _ ⟨(zc_ BK360.out 0).trans rfl,(zc_ BK361.out 0).trans rfl⟩ (fun hHeld => ?_)
     clear hK K
     refine norm_ (a':=?_) ?_ ?_
     rotate_left
     ·show Act.put _ (some 24) _ = _
      simp only [Act.put,List.setIfInBounds_toArray,List.set_cons_zero,List.set_cons_succ,i64_w,i32_w,IntKind.wrap_u8]
      rfl
     refine pure_ (i:=5) (N:=some 6) (v:=?_) (a':=?_) #[true,true,true,true,true,true] rfl rfl (by kernel_rfl) (fun _ _ _ h => h) (Or.inl ⟨by rfl,?_⟩) ?_ ?_
     rotate_left
     ·intro w'
      go_simp
      with_reducible rfl
     rotate_left
     ·simp only [Act.put,List.setIfInBounds_toArray,List.set_cons_zero,List.set_cons_succ,i64_w,i32_w,IntKind.wrap_u8]
      rfl
     refine done_ (by kernel_rfl) ?_
     have hcz121_0 : w120.cell? ⟨gb360,0,none⟩ = some (.slice A0_0 l0_0.length c0_0):=(zc_ BK360.out 0).trans rfl
     have hfz121_0:=zf_ BK360.out 0
     try go_wp2_with (first|((with_reducible refine gate_callee (f:=7) rfl ?_);refine goesL_ (some 26) rfl rfl Try.func7 (by kernel_rfl) rfl #[.agg #[.slice A0_0 l0_0.length c0_0]] rfl zq_ ?_;(with_reducible refine (laws_toGrammar.calls k _ _ l0_0 t371 _ ?side1 ?side2 A22.out).mono ?_);(case side1 => repeat (first|exact (Kd.C_below HR0_0.out HB.out)|(with_reducible refine Kd.C_alloc ?_ _)|(with_reducible refine Kd.C_drewN ?_ _)|(with_reducible refine Kd.C_drew ?_)));(case side2 => exact HC0_0.out);rintro e w122 ⟨v372,rfl,ho0,hb⟩;refine ⟨_,rfl,?_⟩;have n0_:=zm_ (Kd.R_elder' (by (with_reducible repeat (first|apply Kd.R_alloc|apply Kd.R_drewN|apply Kd.R_drew));exact HO366.out) (Kd.R_base ho0) hb);have n1_:=zm_ (Kd.S_below (by (with_reducible repeat (first|apply Kd.S_alloc|apply Kd.S_drewN|apply Kd.S_drew));exact HO369.out) hb);have n2_:=zm_ (Kd.R_lower (Kd.R_new' ho0 (Kd.R_lt (by (with_reducible repeat (first|apply Kd.R_alloc|apply Kd.R_drewN|apply Kd.R_drew));exact HO366.out))) (below_size (by repeat (first|(with_reducible first|exact HB.out|apply za_|apply zn_|apply zd_|refine zs_ ?_ GE360.out|refine zs_ ?_ GE361.out)|exact HB.out))));have n3_:=zm_ (blk_below (g:=gb360) (o:=.cells #[.slice A0_0 l0_0.length c0_0] 24 (0,0)) (by (with_reducible repeat first|refine zl_ ?_ _|refine zr_ ?_|refine zk_ ?_ _);exact BK360.out) hb);have n4_:=zm_ (blk_below (g:=gb361) (o:=.cells #[.slice A1_0 l1_0.length c1_0] 27 (0,0)) (by (with_reducible repeat first|refine zl_ ?_ _|refine zr_ ?_|refine zk_ ?_ _);exact BK361.out) hb);have n5_:=zm_ (below_step (by repeat (first|(with_reducible first|exact HB.out|apply za_|apply zn_|apply zd_|refine zs_ ?_ GE360.out|refine zs_ ?_ GE361.out)|exact HB.out)) hb);clear HO366;clear HO369;clear BK360;clear BK361;clear HB;have HO366:=n0_;have HO369:=n1_;have HO373:=n2_;have BK360:=n3_;have BK361:=n4_;have HB:=n5_;clear n0_ n1_ n2_ n3_ n4_ n5_;(try clear hb);(try clear hb2);(try clear hk);(try clear hi);(try clear ho0))|((with_reducible refine gate_dst (N:=7) rfl ?_);refine box_event ?hg (N:=7) ?hd (cs:=#[.slice none 0 0]) (t:=33) ?hr ?_;(case hd => rfl);(case hg => rfl);(case hr => first|(go_simp;done)|(go_simp;rfl));intro gb374 hg w123 hbox hb;have n0_:=zm_ (Kd.R_below (by (with_reducible repeat (first|apply Kd.R_alloc|apply Kd.R_drewN|apply Kd.R_drew));exact HO366.out) hb);have n1_:=zm_ (Kd.S_below (by (with_reducible repeat (first|apply Kd.S_alloc|apply Kd.S_drewN|apply Kd.S_drew));exact HO369.out) hb);have n2_:=zm_ (Kd.R_below (by (with_reducible repeat (first|apply Kd.R_alloc|apply Kd.R_drewN|apply Kd.R_drew));exact HO373.out) hb);have n3_:=zm_ (blk_below (g:=gb360) (o:=.cells #[.slice A0_0 l0_0.length c0_0] 24 (0,0)) (by (with_reducible repeat first|refine zl_ ?_ _|refine zr_ ?_|refine zk_ ?_ _);exact BK360.out) hb);have n4_:=zm_ (blk_below (g:=gb361) (o:=.cells #[.slice A1_0 l1_0.length c1_0] 27 (0,0)) (by (with_reducible repeat first|refine zl_ ?_ _|refine zr_ ?_|refine zk_ ?_ _);exact BK361.out) hb);have n5_:=zm_ (below_step (by repeat (first|(with_reducible first|exact HB.out|apply za_|apply zn_|apply zd_|refine zs_ ?_ GE360.out|refine zs_ ?_ GE361.out)|exact HB.out)) hb);have n6_:=zm_ (hbox);have n7_:=zm_ ((by rw [hg];exact (below_size (by repeat (first|(with_reducible first|exact HB.out|apply za_|apply zn_|apply zd_|refine zs_ ?_ GE360.out|refine zs_ ?_ GE361.out)|exact HB.out))) : w.heap.size ≤ gb374));have n8_:=zm_ ((by rw [hg];exact (below_size (by repeat (first|(with_reducible first|exact HB.out|apply za_|apply zn_|apply zd_|refine zs_ ?_ GE360.out|refine zs_ ?_ GE361.out)|exact HB.out))) : w.heap.size ≤ gb374));have n9_:=zm_ ((by rw [hg];exact Nat.ne_of_lt (blk_lt (g:=gb360) (o:=.cells #[.slice A0_0 l0_0.length c0_0] 24 (0,0)) (by (with_reducible repeat first|refine zl_ ?_ _|refine zr_ ?_|refine zk_ ?_ _);exact BK360.out)) : gb360 ≠ gb374));have n10_:=zm_ ((by rw [hg];exact Nat.ne_of_gt (blk_lt (g:=gb360) (o:=.cells #[.slice A0_0 l0_0.length c0_0] 24 (0,0)) (by (with_reducible repeat first|refine zl_ ?_ _|refine zr_ ?_|refine zk_ ?_ _);exact BK360.out)) : gb374 ≠ gb360));have n11_:=zm_ ((by rw [hg];exact Nat.ne_of_lt (blk_lt (g:=gb361) (o:=.cells #[.slice A1_0 l1_0.length c1_0] 27 (0,0)) (by (with_reducible repeat first|refine zl_ ?_ _|refine zr_ ?_|refine zk_ ?_ _);exact BK361.out)) : gb361 ≠ gb374));have n12_:=zm_ ((by rw [hg];exact Nat.ne_of_gt (blk_lt (g:=gb361) (o:=.cells #[.slice A1_0 l1_0.length c1_0] 27 (0,0)) (by (with_reducible repeat first|refine zl_ ?_ _|refine zr_ ?_|refine zk_ ?_ _);exact BK361.out)) : gb374 ≠ gb361));clear HO366;clear HO369;clear HO373;clear BK360;clear BK361;clear HB;have HO366:=n0_;have HO369:=n1_;have HO373:=n2_;have BK360:=n3_;have BK361:=n4_;have HB:=n5_;have BK374:=n6_;have GW374:=n7_;have GE374:=n8_;have NB360_374:=n9_;have NB374_360:=n10_;have NB361_374:=n11_;have NB374_361:=n12_;clear n0_ n1_ n2_ n3_ n4_ n5_ n6_ n7_ n8_ n9_ n10_ n11_ n12_;clear hb hbox hg;obtain ⟨Ao124,co124,eo124⟩:=Kd.R_slice HO373.out;subst eo124;have hnb125:=NB374_360.out;have hnc125:=NB360_374.out;have hnb126:=NB374_361.out;have hnc126:=NB361_374.out;have hcz127_0 : w123.cell? ⟨gb374,0,none⟩ = some (.slice none 0 0):=(zc_ BK374.out 0).trans rfl;have hfz127_0:=zf_ BK374.out 0;have hcz128_0 : w123.cell? ⟨gb361,0,none⟩ = some (.slice A1_0 l1_0.length c1_0):=(zc_ BK361.out 0).trans rfl;have hfz128_0:=zf_ BK361.out 0)|((with_reducible refine gate_callee (f:=8) rfl ?_);refine goesL_ (some 28) rfl rfl Try.func8 (by kernel_rfl) rfl #[.agg #[.slice A1_0 l1_0.length c1_0]] rfl zq_ ?_;(with_reducible refine (laws_toTree.calls k _ _ l1_0 t375 _ ?side1 ?side2 A23.out).mono ?_);(case side1 => exact Kd.C_below HR1_0.out (by repeat (first|(with_reducible first|exact HB.out|apply za_|apply zn_|apply zd_|refine zs_ ?_ GE360.out|refine zs_ ?_ GE361.out|refine zs_ ?_ GE374.out)|exact HB.out)));(case side2 => exact HC1_0.out);rintro e w129 ⟨v376,rfl,ho0,hb⟩;refine ⟨_,rfl,?_⟩;have n0_:=zm_ (Kd.R_below (by (with_reducible repeat (first|apply Kd.R_alloc|apply Kd.R_drewN|apply Kd.R_drew));exact (Kd.R_mono (Kd.R_far (p:=⟨gb374,0,none⟩) (Kd.R_types HO366.out BK374.out (by decide)) (fun _ hk => hk.2) (.slice Ao124 t371.length co124)) (fun _ h_ => h_.1))) hb);have n1_:=zm_ (Kd.S_elder' (by (with_reducible repeat (first|apply Kd.S_alloc|apply Kd.S_drewN|apply Kd.S_drew));exact (Kd.S_mono (Kd.S_far (p:=⟨gb374,0,none⟩) (Kd.S_types HO369.out BK374.out (by decide)) (fun _ hk => hk.2) (.slice Ao124 t371.length co124)) (fun _ h_ => h_.1))) (Kd.S_base ho0) hb);have n2_:=zm_ (Kd.R_below (by (with_reducible repeat (first|apply Kd.R_alloc|apply Kd.R_drewN|apply Kd.R_drew));exact (Kd.R_mono (Kd.R_far (p:=⟨gb374,0,none⟩) (Kd.R_types HO373.out BK374.out (by decide)) (fun _ hk => hk.2) (.slice Ao124 t371.length co124)) (fun _ h_ => h_.1))) hb);have n3_:=zm_ (Kd.S_lower (Kd.S_new' ho0 (Kd.S_lt (by (with_reducible repeat (first|apply Kd.S_alloc|apply Kd.S_drewN|apply Kd.S_drew));exact (Kd.S_mono (Kd.S_far (p:=⟨gb374,0,none⟩) (Kd.S_types HO369.out BK374.out (by decide)) (fun _ hk => hk.2) (.slice Ao124 t371.length co124)) (fun _ h_ => h_.1))))) (below_size (by repeat (first|(with_reducible first|exact HB.out|apply za_|apply zn_|apply zd_|refine zs_ ?_ GE360.out|refine zs_ ?_ GE361.out|refine zs_ ?_ GE374.out)|exact HB.out))));have n4_:=zm_ (blk_below (g:=gb360) (o:=.cells #[.slice A0_0 l0_0.length c0_0] 24 (0,0)) (by (with_reducible repeat first|refine zl_ ?_ _|refine zr_ ?_|refine zk_ ?_ _);refine blk_far ?_ NB360_374.out _;(with_reducible repeat first|refine zl_ ?_ _|refine zr_ ?_|refine zk_ ?_ _);exact BK360.out) hb);have n5_:=zm_ (blk_below (g:=gb361) (o:=.cells #[.slice A1_0 l1_0.length c1_0] 27 (0,0)) (by (with_reducible repeat first|refine zl_ ?_ _|refine zr_ ?_|refine zk_ ?_ _);refine blk_far ?_ NB361_374.out _;(with_reducible repeat first|refine zl_ ?_ _|refine zr_ ?_|refine zk_ ?_ _);exact BK361.out) hb);have n6_:=zm_ (blk_below (g:=gb374) (o:=.cells #[.slice Ao124 t371.length co124] 33 (0,0)) (by (with_reducible repeat first|refine zl_ ?_ _|refine zr_ ?_|refine zk_ ?_ _);refine blk_put (cs:=#[.slice none 0 0]) ?_ 0 _ rfl;(with_reducible repeat first|refine zl_ ?_ _|refine zr_ ?_|refine zk_ ?_ _);exact BK374.out) hb);have n7_:=zm_ (below_step (by repeat (first|(with_reducible first|exact HB.out|apply za_|apply zn_|apply zd_|refine zs_ ?_ GE360.out|refine zs_ ?_ GE361.out|refine zs_ ?_ GE374.out)|exact HB.out)) hb);clear HO366;clear HO369;clear HO373;clear BK360;clear BK361;clear BK374;clear HB;have HO366:=n0_;have HO369:=n1_;have HO373:=n2_;have HO377:=n3_;have BK360:=n4_;have BK361:=n5_;have BK374:=n6_;have HB:=n7_;clear n0_ n1_ n2_ n3_ n4_ n5_ n6_ n7_;(try clear hb);(try clear hb2);(try clear hk);(try clear hi);(try clear ho0))|((with_reducible refine gate_dst (N:=8) rfl ?_);refine box_event ?hg (N:=8) ?hd (cs:=#[.slice none 0 0]) (t:=37) ?hr ?_;(case hd => rfl);(case hg => rfl);(case hr => first|(go_simp;done)|(go_simp;rfl));intro gb378 hg w130 hbox hb;have n0_:=zm_ (Kd.R_below (by (with_reducible repeat (first|apply Kd.R_alloc|apply Kd.R_drewN|apply Kd.R_drew));exact HO366.out) hb);have n1_:=zm_ (Kd.S_below (by (with_reducible repeat (first|apply Kd.S_alloc|apply Kd.S_drewN|apply Kd.S_drew));exact HO369.out) hb);have n2_:=zm_ (Kd.R_below (by (with_reducible repeat (first|apply Kd.R_alloc|apply Kd.R_drewN|apply Kd.R_drew));exact HO373.out) hb);have n3_:=zm_ (Kd.S_below (by (with_reducible repeat (first|apply Kd.S_alloc|apply Kd.S_drewN|apply Kd.S_drew));exact HO377.out) hb);have n4_:=zm_ (blk_below (g:=gb360) (o:=.cells #[.slice A0_0 l0_0.length c0_0] 24 (0,0)) (by (with_reducible repeat first|refine zl_ ?_ _|refine zr_ ?_|refine zk_ ?_ _);exact BK360.out) hb);have n5_:=zm_ (blk_below (g:=gb361) (o:=.cells #[.slice A1_0 l1_0.length c1_0] 27 (0,0)) (by (with_reducible repeat first|refine zl_ ?_ _|refine zr_ ?_|refine zk_ ?_ _);exact BK361.out) hb);have n6_:=zm_ (blk_below (g:=gb374) (o:=.cells #[.slice Ao124 t371.length co124] 33 (0,0)) (by (with_reducible repeat first|refine zl_ ?_ _|refine zr_ ?_|refine zk_ ?_ _);exact BK374.out) hb);have n7_:=zm_ (below_step (by repeat (first|(with_reducible first|exact HB.out|apply za_|apply zn_|apply zd_|refine zs_ ?_ GE360.out|refine zs_ ?_ GE361.out|refine zs_ ?_ GE374.out)|exact HB.out)) hb);have n8_:=zm_ (hbox);have n9_:=zm_ ((by rw [hg];exact (below_size (by repeat (first|(with_reducible first|exact HB.out|apply za_|apply zn_|apply zd_|refine zs_ ?_ GE360.out|refine zs_ ?_ GE361.out|refine zs_ ?_ GE374.out)|exact HB.out))) : w.heap.size ≤ gb378));have n10_:=zm_ ((by rw [hg];exact (below_size (by repeat (first|(with_reducible first|exact HB.out|apply za_|apply zn_|apply zd_|refine zs_ ?_ GE360.out|refine zs_ ?_ GE361.out|refine zs_ ?_ GE374.out)|exact HB.out))) : w.heap.size ≤ gb378));have n11_:=zm_ ((by rw [hg];exact Nat.ne_of_lt (blk_lt (g:=gb360) (o:=.cells #[.slice A0_0 l0_0.length c0_0] 24 (0,0)) (by (with_reducible repeat first|refine zl_ ?_ _|refine zr_ ?_|refine zk_ ?_ _);exact BK360.out)) : gb360 ≠ gb378));have n12_:=zm_ ((by rw [hg];exact Nat.ne_of_gt (blk_lt (g:=gb360) (o:=.cells #[.slice A0_0 l0_0.length c0_0] 24 (0,0)) (by (with_reducible repeat first|refine zl_ ?_ _|refine zr_ ?_|refine zk_ ?_ _);exact BK360.out)) : gb378 ≠ gb360));have n13_:=zm_ ((by rw [hg];exact Nat.ne_of_lt (blk_lt (g:=gb361) (o:=.cells #[.slice A1_0 l1_0.length c1_0] 27 (0,0)) (by (with_reducible repeat first|refine zl_ ?_ _|refine zr_ ?_|refine zk_ ?_ _);exact BK361.out)) : gb361 ≠ gb378));have n14_:=zm_ ((by rw [hg];exact Nat.ne_of_gt (blk_lt (g:=gb361) (o:=.cells #[.slice A1_0 l1_0.length c1_0] 27 (0,0)) (by (with_reducible repeat first|refine zl_ ?_ _|refine zr_ ?_|refine zk_ ?_ _);exact BK361.out)) : gb378 ≠ gb361));have n15_:=zm_ ((by rw [hg];exact Nat.ne_of_lt (blk_lt (g:=gb374) (o:=.cells #[.slice Ao124 t371.length co124] 33 (0,0)) (by (with_reducible repeat first|refine zl_ ?_ _|refine zr_ ?_|refine zk_ ?_ _);exact BK374.out)) : gb374 ≠ gb378));have n16_:=zm_ ((by rw [hg];exact Nat.ne_of_gt (blk_lt (g:=gb374) (o:=.cells #[.slice Ao124 t371.length co124] 33 (0,0)) (by (with_reducible repeat first|refine zl_ ?_ _|refine zr_ ?_|refine zk_ ?_ _);exact BK374.out)) : gb378 ≠ gb374));clear HO366;clear HO369;clear HO373;clear HO377;clear BK360;clear BK361;clear BK374;clear HB;have HO366:=n0_;have HO369:=n1_;have HO373:=n2_;have HO377:=n3_;have BK360:=n4_;have BK361:=n5_;have BK374:=n6_;have HB:=n7_;have BK378:=n8_;have GW378:=n9_;have GE378:=n10_;have NB360_378:=n11_;have NB378_360:=n12_;have NB361_378:=n13_;have NB378_361:=n14_;have NB374_378:=n15_;have NB378_374:=n16_;clear n0_ n1_ n2_ n3_ n4_ n5_ n6_ n7_ n8_ n9_ n10_ n11_ n12_ n13_ n14_ n15_ n16_;clear hb hbox hg;obtain ⟨Ao131,co131,eo131⟩:=Kd.S_slice HO377.out;subst eo131;have hnb132:=NB378_360.out;have hnc132:=NB360_378.out;have hnb133:=NB378_361.out;have hnc133:=NB361_378.out;have hnb134:=NB378_374.out;have hnc134:=NB374_378.out;have hcz135_0 : w130.cell? ⟨gb378,0,none⟩ = some (.slice none 0 0):=(zc_ BK378.out 0).trans rfl;have hfz135_0:=zf_ BK378.out 0;have hcz136_0 : w130.cell? ⟨gb374,0,none⟩ = some (.slice Ao124 t371.length co124):=(zc_ BK374.out 0).trans rfl;have hfz136_0:=zf_ BK374.out 0)|((with_reducible refine gate_callee (f:=9) rfl ?_);refine goesL_ (some 31) rfl rfl Try.func9 (by kernel_rfl) rfl #[.agg #[.slice Ao124 t371.length co124],.agg #[.slice Ao131 t375.length co131]] rfl zq_ ?_;(with_reducible refine (impl_TreeText.calls k _ _ t371 _ _ t375 t379 _ ?side1 ?side2 ?side3 ?side4 A24.out).mono ?_);(case side1 => refine (Kd.R_reads' (e:=51) (base:=w.heap.size) (ok:=fun k_ => (True ∧ some k_ ≠ (.slice Ao118 t364.length co118 : Value).ownBlock)) (n:=t371.length) (c:=co124) ?_).2.2;exact (by (with_reducible repeat (first|apply Kd.R_alloc|apply Kd.R_drewN|apply Kd.R_drew));exact (Kd.R_mono (Kd.R_far (p:=⟨gb378,0,none⟩) (Kd.R_types HO373.out BK378.out (by decide)) (fun _ hk => hk.2) (.slice Ao131 t375.length co131)) (fun _ h_ => h_.1))));(case side2 => exact (Kd.R_reads' HO373.out).2.1);(case side3 => refine (Kd.S_reads' (e:=47) (base:=w.heap.size) (ok:=fun k_ => (True ∧ some k_ ≠ (.slice Ao119 t367.length co119 : Value).ownBlock)) (n:=t375.length) (c:=co131) ?_).2.2;exact (by (with_reducible repeat (first|apply Kd.S_alloc|apply Kd.S_drewN|apply Kd.S_drew));exact (Kd.S_mono (Kd.S_far (p:=⟨gb378,0,none⟩) (Kd.S_types HO377.out BK378.out (by decide)) (fun _ hk => hk.2) (.slice Ao131 t375.length co131)) (fun _ h_ => h_.1))));(case side4 => exact (Kd.S_reads' HO377.out).2.1);rintro e w137 ⟨rfl,hb⟩;refine ⟨_,rfl,?_⟩;have n0_:=zm_ (Kd.R_below (by (with_reducible repeat (first|apply Kd.R_alloc|apply Kd.R_drewN|apply Kd.R_drew));exact (Kd.R_mono (Kd.R_far (p:=⟨gb378,0,none⟩) (Kd.R_types HO366.out BK378.out (by decide)) (fun _ hk => hk.2) (.slice Ao131 t375.length co131)) (fun _ h_ => h_.1))) hb);have n1_:=zm_ (Kd.S_below (by (with_reducible repeat (first|apply Kd.S_alloc|apply Kd.S_drewN|apply Kd.S_drew));exact (Kd.S_mono (Kd.S_far (p:=⟨gb378,0,none⟩) (Kd.S_types HO369.out BK378.out (by decide)) (fun _ hk => hk.2) (.slice Ao131 t375.length co131)) (fun _ h_ => h_.1))) hb);have n2_:=zm_ (Kd.R_below (by (with_reducible repeat (first|apply Kd.R_alloc|apply Kd.R_drewN|apply Kd.R_drew));exact (Kd.R_mono (Kd.R_far (p:=⟨gb378,0,none⟩) (Kd.R_types HO373.out BK378.out (by decide)) (fun _ hk => hk.2) (.slice Ao131 t375.length co131)) (fun _ h_ => h_.1))) hb);have n3_:=zm_ (Kd.S_below (by (with_reducible repeat (first|apply Kd.S_alloc|apply Kd.S_drewN|apply Kd.S_drew));exact (Kd.S_mono (Kd.S_far (p:=⟨gb378,0,none⟩) (Kd.S_types HO377.out BK378.out (by decide)) (fun _ hk => hk.2) (.slice Ao131 t375.length co131)) (fun _ h_ => h_.1))) hb);have n4_:=zm_ (blk_below (g:=gb360) (o:=.cells #[.slice A0_0 l0_0.length c0_0] 24 (0,0)) (by (with_reducible repeat first|refine zl_ ?_ _|refine zr_ ?_|refine zk_ ?_ _);refine blk_far ?_ NB360_378.out _;(with_reducible repeat first|refine zl_ ?_ _|refine zr_ ?_|refine zk_ ?_ _);exact BK360.out) hb);have n5_:=zm_ (blk_below (g:=gb361) (o:=.cells #[.slice A1_0 l1_0.length c1_0] 27 (0,0)) (by (with_reducible repeat first|refine zl_ ?_ _|refine zr_ ?_|refine zk_ ?_ _);refine blk_far ?_ NB361_378.out _;(with_reducible repeat first|refine zl_ ?_ _|refine zr_ ?_|refine zk_ ?_ _);exact BK361.out) hb);have n6_:=zm_ (blk_below (g:=gb374) (o:=.cells #[.slice Ao124 t371.length co124] 33 (0,0)) (by (with_reducible repeat first|refine zl_ ?_ _|refine zr_ ?_|refine zk_ ?_ _);refine blk_far ?_ NB374_378.out _;(with_reducible repeat first|refine zl_ ?_ _|refine zr_ ?_|refine zk_ ?_ _);exact BK374.out) hb);have n7_:=zm_ (blk_below (g:=gb378) (o:=.cells #[.slice Ao131 t375.length co131] 37 (0,0)) (by (with_reducible repeat first|refine zl_ ?_ _|refine zr_ ?_|refine zk_ ?_ _);refine blk_put (cs:=#[.slice none 0 0]) ?_ 0 _ rfl;(with_reducible repeat first|refine zl_ ?_ _|refine zr_ ?_|refine zk_ ?_ _);exact BK378.out) hb);have n8_:=zm_ (below_step (by repeat (first|(with_reducible first|exact HB.out|apply za_|apply zn_|apply zd_|refine zs_ ?_ GE360.out|refine zs_ ?_ GE361.out|refine zs_ ?_ GE374.out|refine zs_ ?_ GE378.out)|exact HB.out)) hb);clear HO366;clear HO369;clear HO373;clear HO377;clear BK360;clear BK361;clear BK374;clear BK378;clear HB;have HO366:=n0_;have HO369:=n1_;have HO373:=n2_;have HO377:=n3_;have BK360:=n4_;have BK361:=n5_;have BK374:=n6_;have BK378:=n7_;have HB:=n8_;clear n0_ n1_ n2_ n3_ n4_ n5_ n6_ n7_ n8_;(try clear hb)))
     have n0_:=zm_ (Kd.R_drew HO366.out)
     have n1_:=zm_ (Kd.S_drew HO369.out)
     have n2_:=zm_ (Kd.R_drew HO373.out)
     have n3_:=zm_ (Kd.S_drew HO377.out)
     have n4_:=zm_ (zr_ BK360.out)
     have n5_:=zm_ (zr_ BK361.out)
     have n6_:=zm_ (zr_ BK374.out)
     have n7_:=zm_ (zr_ BK378.out)
     have n8_:=zm_ (zd_ HB.out)
     clear HO366
     clear HO369
     clear HO373
     clear HO377
     clear BK360
     clear BK361
     clear BK374
     clear BK378
     clear HB
     have HO366:=n0_
     have HO369:=n1_
     have HO373:=n2_
     have HO377:=n3_
     have BK360:=n4_
     have BK361:=n5_
     have BK374:=n6_
     have BK378:=n7_
     have HB:=n8_
     clear n0_ n1_ n2_ n3_ n4_ n5_ n6_ n7_ n8_
     refine start_ (n:=5) (S:=fun w' => w'.cell? ⟨gb374,0,none⟩ = some (.slice Ao124 t371.length co124) ∧ w'.cell? ⟨gb360,0,none⟩ = some (.slice A0_0 l0_0.length c0_0)) (ds:=[]) #[false,false,false,false,false] (by kernel_rfl) rfl rfl ⟨(zc_ BK374.out 0).trans rfl,(zc_ BK360.out 0).trans rfl⟩ (fun hHeld => ?_)
     generalize w137.drew = w138 at HO366 HO369 HO373 HO377 BK360 BK361 BK374 BK378 HB hHeld ⊢
     refine take_ (i:=0) (N:=some 35) (v:=?_) (a':=?_) #[true,false,false,false,false] rfl rfl (by kernel_rfl) (fun _ _ _ h => h) (Or.inl ⟨by rfl,?_⟩) hHeld ?_ ?_
     rotate_left
     ·rintro w' ⟨s0,s1⟩
      go_simp
      with_reducible rfl
     rotate_left
     ·simp only [Act.put,List.setIfInBounds_toArray,List.set_cons_zero,List.set_cons_succ,i64_w,i32_w,IntKind.wrap_u8]
      rfl
     refine take_ (i:=1) (N:=some 36) (v:=?_) (a':=?_) #[true,true,false,false,false] rfl rfl (by kernel_rfl) (fun _ _ _ h => h) (Or.inl ⟨by rfl,?_⟩) hHeld ?_ ?_
     rotate_left
     ·rintro w' ⟨s0,s1⟩
      go_simp
      with_reducible rfl
     rotate_left
     ·simp only [Act.put,List.setIfInBounds_toArray,List.set_cons_zero,List.set_cons_succ,i64_w,i32_w,IntKind.wrap_u8]
      rfl
     refine one_ (i:=2) (N:=some 37) #[true,true,true,false,false] rfl rfl (by kernel_rfl) (by decide) (fun K hK => ?_)
     refine goes_ Try.func7 (by kernel_rfl) rfl #[.agg #[.slice A0_0 l0_0.length c0_0]] (by rfl) rfl rfl zq_ ?_
     with_reducible refine (laws_toGrammar.calls k _ _ l0_0 t380 _ ?side1 ?side2 A26.out).mono ?_
     (case side1 => repeat (first|exact (Kd.C_below HR0_0.out HB.out)|(with_reducible refine Kd.C_alloc ?_ _)|(with_reducible refine Kd.C_drewN ?_ _)|(with_reducible refine Kd.C_drew ?_)))
     (case side2 => exact HC0_0.out)
     rintro e w139 ⟨v381,rfl,ho0,hb⟩
     refine ⟨_,rfl,?_⟩
     have n0_:=zm_ (Kd.R_elder' (by (with_reducible repeat (first|apply Kd.R_alloc|apply Kd.R_drewN|apply Kd.R_drew));exact HO366.out) (Kd.R_base ho0) hb)
     have n1_:=zm_ (Kd.S_below (by (with_reducible repeat (first|apply Kd.S_alloc|apply Kd.S_drewN|apply Kd.S_drew));exact HO369.out) hb)
     have n2_:=zm_ (Kd.R_elder' (by (with_reducible repeat (first|apply Kd.R_alloc|apply Kd.R_drewN|apply Kd.R_drew));exact HO373.out) (Kd.R_base ho0) hb)
     have n3_:=zm_ (Kd.S_below (by (with_reducible repeat (first|apply Kd.S_alloc|apply Kd.S_drewN|apply Kd.S_drew));exact HO377.out) hb)
     have n4_:=zm_ (Kd.R_lower (Kd.R_new' (Kd.R_new' ho0 (Kd.R_lt (by (with_reducible repeat (first|apply Kd.R_alloc|apply Kd.R_drewN|apply Kd.R_drew));exact HO366.out))) (Kd.R_lt (by (with_reducible repeat (first|apply Kd.R_alloc|apply Kd.R_drewN|apply Kd.R_drew));exact HO373.out))) (below_size (by repeat (first|(with_reducible first|exact HB.out|apply za_|apply zn_|apply zd_|refine zs_ ?_ GE360.out|refine zs_ ?_ GE361.out|refine zs_ ?_ GE374.out|refine zs_ ?_ GE378.out)|exact HB.out))))
     have n5_:=zm_ (blk_below (g:=gb360) (o:=.cells #[.slice A0_0 l0_0.length c0_0] 24 (0,0)) (by (with_reducible repeat first|refine zl_ ?_ _|refine zr_ ?_|refine zk_ ?_ _);exact BK360.out) hb)
     have n6_:=zm_ (blk_below (g:=gb361) (o:=.cells #[.slice A1_0 l1_0.length c1_0] 27 (0,0)) (by (with_reducible repeat first|refine zl_ ?_ _|refine zr_ ?_|refine zk_ ?_ _);exact BK361.out) hb)
     have n7_:=zm_ (blk_below (g:=gb374) (o:=.cells #[.slice Ao124 t371.length co124] 33 (0,0)) (by (with_reducible repeat first|refine zl_ ?_ _|refine zr_ ?_|refine zk_ ?_ _);exact BK374.out) hb)
     have n8_:=zm_ (blk_below (g:=gb378) (o:=.cells #[.slice Ao131 t375.length co131] 37 (0,0)) (by (with_reducible repeat first|refine zl_ ?_ _|refine zr_ ?_|refine zk_ ?_ _);exact BK378.out) hb)
     have n9_:=zm_ (below_step (by repeat (first|(with_reducible first|exact HB.out|apply za_|apply zn_|apply zd_|refine zs_ ?_ GE360.out|refine zs_ ?_ GE361.out|refine zs_ ?_ GE374.out|refine zs_ ?_ GE378.out)|exact HB.out)) hb)
     clear HO366
     clear HO369
     clear HO373
     clear HO377
     clear BK360
     clear BK361
     clear BK374
     clear BK378
     clear HB
     have HO366:=n0_
     have HO369:=n1_
     have HO373:=n2_
     have HO377:=n3_
     have HO382:=n4_
     have BK360:=n5_
     have BK361:=n6_
     have BK374:=n7_
     have BK378:=n8_
     have HB:=n9_
     clear n0_ n1_ n2_ n3_ n4_ n5_ n6_ n7_ n8_ n9_
     (try clear hb)
     (try clear hb2)
     (try clear hk)
     (try clear hi)
     (try clear ho0)
     obtain ⟨Ao140,co140,eo140⟩:=Kd.R_slice HO382.out
     (first|subst eo140|(injection eo140 with f1_ f2_ f3_;have f4_:=f1_.symm;have f5_:=f3_.symm;clear f1_ f2_ f3_;subst f4_;subst f5_))
     refine hK.out _ _ ⟨(zc_ BK374.out 0).trans rfl,(zc_ BK360.out 0).trans rfl⟩ (fun hHeld => ?_)
     clear hK K
     refine norm_ (a':=?_) ?_ ?_
     rotate_left
     ·show Act.put _ (some 37) _ = _
      simp only [Act.put,List.setIfInBounds_toArray,List.set_cons_zero,List.set_cons_succ,i64_w,i32_w,IntKind.wrap_u8]
      rfl
     refine one_ (i:=3) (N:=some 38) #[true,true,true,true,false] rfl rfl (by kernel_rfl) (by decide) (fun K hK => ?_)
     refine goes_ Try.func10 (by kernel_rfl) rfl #[.agg #[.slice Ao124 t371.length co124],.agg #[.slice Ao140 t380.length co140]] (by rfl) rfl rfl zq_ ?_
     with_reducible refine (laws_eqGrammar.calls k _ _ t371 _ _ t380 false _ ?side1 ?side2 ?side3 ?side4 A27.out).mono ?_
     (case side1 => repeat (first|exact (Kd.R_reads' HO373.out).2.2|(with_reducible refine Kd.C_alloc ?_ _)|(with_reducible refine Kd.C_drewN ?_ _)|(with_reducible refine Kd.C_drew ?_)))
     (case side2 => exact (Kd.R_reads' HO373.out).2.1)
     (case side3 => repeat (first|exact (Kd.R_reads' HO382.out).2.2|(with_reducible refine Kd.C_alloc ?_ _)|(with_reducible refine Kd.C_drewN ?_ _)|(with_reducible refine Kd.C_drew ?_)))
     (case side4 => exact (Kd.R_reads' HO382.out).2.1)
     rintro e w141 ⟨rfl,hb⟩
     refine ⟨_,rfl,?_⟩
     have n0_:=zm_ (Kd.R_below (by (with_reducible repeat (first|apply Kd.R_alloc|apply Kd.R_drewN|apply Kd.R_drew));exact HO366.out) hb)
     have n1_:=zm_ (Kd.S_below (by (with_reducible repeat (first|apply Kd.S_alloc|apply Kd.S_drewN|apply Kd.S_drew));exact HO369.out) hb)
     have n2_:=zm_ (Kd.R_below (by (with_reducible repeat (first|apply Kd.R_alloc|apply Kd.R_drewN|apply Kd.R_drew));exact HO373.out) hb)
     have n3_:=zm_ (Kd.S_below (by (with_reducible repeat (first|apply Kd.S_alloc|apply Kd.S_drewN|apply Kd.S_drew));exact HO377.out) hb)
     have n4_:=zm_ (Kd.R_below (by (with_reducible repeat (first|apply Kd.R_alloc|apply Kd.R_drewN|apply Kd.R_drew));exact HO382.out) hb)
     have n5_:=zm_ (blk_below (g:=gb360) (o:=.cells #[.slice A0_0 l0_0.length c0_0] 24 (0,0)) (by (with_reducible repeat first|refine zl_ ?_ _|refine zr_ ?_|refine zk_ ?_ _);exact BK360.out) hb)
     have n6_:=zm_ (blk_below (g:=gb361) (o:=.cells #[.slice A1_0 l1_0.length c1_0] 27 (0,0)) (by (with_reducible repeat first|refine zl_ ?_ _|refine zr_ ?_|refine zk_ ?_ _);exact BK361.out) hb)
     have n7_:=zm_ (blk_below (g:=gb374) (o:=.cells #[.slice Ao124 t371.length co124] 33 (0,0)) (by (with_reducible repeat first|refine zl_ ?_ _|refine zr_ ?_|refine zk_ ?_ _);exact BK374.out) hb)
     have n8_:=zm_ (blk_below (g:=gb378) (o:=.cells #[.slice Ao131 t375.length co131] 37 (0,0)) (by (with_reducible repeat first|refine zl_ ?_ _|refine zr_ ?_|refine zk_ ?_ _);exact BK378.out) hb)
     have n9_:=zm_ (below_step (by repeat (first|(with_reducible first|exact HB.out|apply za_|apply zn_|apply zd_|refine zs_ ?_ GE360.out|refine zs_ ?_ GE361.out|refine zs_ ?_ GE374.out|refine zs_ ?_ GE378.out)|exact HB.out)) hb)
     clear HO366
     clear HO369
     clear HO373
     clear HO377
     clear HO382
     clear BK360
     clear BK361
     clear BK374
     clear BK378
     clear HB
     have HO366:=n0_
     have HO369:=n1_
     have HO373:=n2_
     have HO377:=n3_
     have HO382:=n4_
     have BK360:=n5_
     have BK361:=n6_
     have BK374:=n7_
     have BK378:=n8_
     have HB:=n9_
     clear n0_ n1_ n2_ n3_ n4_ n5_ n6_ n7_ n8_ n9_
     (try clear hb)
     (try clear hb2)
     (try clear hk)
     (try clear hi)
     refine hK.out _ _ ⟨(zc_ BK374.out 0).trans rfl,(zc_ BK360.out 0).trans rfl⟩ (fun hHeld => ?_)
     clear hK K
     refine norm_ (a':=?_) ?_ ?_
     rotate_left
     ·show Act.put _ (some 38) _ = _
      simp only [Act.put,List.setIfInBounds_toArray,List.set_cons_zero,List.set_cons_succ,i64_w,i32_w,IntKind.wrap_u8]
      rfl
     refine pure_ (i:=4) (N:=some 39) (v:=?_) (a':=?_) #[true,true,true,true,true] rfl rfl (by kernel_rfl) (fun _ _ _ h => h) (Or.inl ⟨by rfl,?_⟩) ?_ ?_
     rotate_left
     ·intro w'
      go_simp
      with_reducible rfl
     rotate_left
     ·simp only [Act.put,List.setIfInBounds_toArray,List.set_cons_zero,List.set_cons_succ,i64_w,i32_w,IntKind.wrap_u8]
      rfl
     refine done_ (by kernel_rfl) ?_
     try go_wp2
     go_ret
     exact ⟨zE_,by repeat (first|(with_reducible first|exact HB.out|apply za_|apply zn_|apply zd_|refine zs_ ?_ GE360.out|refine zs_ ?_ GE361.out|refine zs_ ?_ GE374.out|refine zs_ ?_ GE378.out)|exact HB.out)⟩
   ·rw [if_neg c25] at H
    have c25b0 : (t379.toList == t370.toList) = false:=beq_eq_false_iff_ne.mpr c25
    have c25b1 : (t379.toList != t370.toList) = true:=bne_iff_ne.mpr c25
    obtain rfl:=Option.some.inj H
    go_enter Try.func3,Try.ntmps3
    try go_wp2_with (first|((with_reducible refine gate_dst (N:=2) rfl ?_);refine box_event ?hg (N:=2) ?hd (cs:=#[.slice A0_0 l0_0.length c0_0]) (t:=24) ?hr ?_;(case hd => rfl);(case hg => rfl);(case hr => first|(go_simp;done)|(go_simp;rfl));intro gb360 hg w142 hbox hb;have n0_:=zm_ (below_step zB_ hb);have n1_:=zm_ (hbox);have n2_:=zm_ ((by rw [hg];exact (below_size zB_) : w.heap.size ≤ gb360));have n3_:=zm_ ((by rw [hg];exact (below_size zB_) : w.heap.size ≤ gb360));clear HB;have HB:=n0_;have BK360:=n1_;have GW360:=n2_;have GE360:=n3_;clear n0_ n1_ n2_ n3_;clear hb hbox hg)|((with_reducible refine gate_dst (N:=3) rfl ?_);refine box_event ?hg (N:=3) ?hd (cs:=#[.slice A1_0 l1_0.length c1_0]) (t:=27) ?hr ?_;(case hd => rfl);(case hg => rfl);(case hr => first|(go_simp;done)|(go_simp;rfl));intro gb361 hg w143 hbox hb;have n0_:=zm_ (blk_below (g:=gb360) (o:=.cells #[.slice A0_0 l0_0.length c0_0] 24 (0,0)) (by (with_reducible repeat first|refine zl_ ?_ _|refine zr_ ?_|refine zk_ ?_ _);exact BK360.out) hb);have n1_:=zm_ (below_step (by repeat (first|(with_reducible first|exact HB.out|apply za_|apply zn_|apply zd_|refine zs_ ?_ GE360.out)|exact HB.out)) hb);have n2_:=zm_ (hbox);have n3_:=zm_ ((by rw [hg];exact (below_size (by repeat (first|(with_reducible first|exact HB.out|apply za_|apply zn_|apply zd_|refine zs_ ?_ GE360.out)|exact HB.out))) : w.heap.size ≤ gb361));have n4_:=zm_ ((by rw [hg];exact (below_size (by repeat (first|(with_reducible first|exact HB.out|apply za_|apply zn_|apply zd_|refine zs_ ?_ GE360.out)|exact HB.out))) : w.heap.size ≤ gb361));have n5_:=zm_ ((by rw [hg];exact Nat.ne_of_lt (blk_lt (g:=gb360) (o:=.cells #[.slice A0_0 l0_0.length c0_0] 24 (0,0)) (by (with_reducible repeat first|refine zl_ ?_ _|refine zr_ ?_|refine zk_ ?_ _);exact BK360.out)) : gb360 ≠ gb361));have n6_:=zm_ ((by rw [hg];exact Nat.ne_of_gt (blk_lt (g:=gb360) (o:=.cells #[.slice A0_0 l0_0.length c0_0] 24 (0,0)) (by (with_reducible repeat first|refine zl_ ?_ _|refine zr_ ?_|refine zk_ ?_ _);exact BK360.out)) : gb361 ≠ gb360));clear BK360;clear HB;have BK360:=n0_;have HB:=n1_;have BK361:=n2_;have GW361:=n3_;have GE361:=n4_;have NB360_361:=n5_;have NB361_360:=n6_;clear n0_ n1_ n2_ n3_ n4_ n5_ n6_;clear hb hbox hg;have hnb144:=NB360_361.out;have hnc144:=NB361_360.out;have hcz145_0 : w143.cell? ⟨gb360,0,none⟩ = some (.slice A0_0 l0_0.length c0_0):=(zc_ BK360.out 0).trans rfl;have hfz145_0:=zf_ BK360.out 0)|((with_reducible refine gate_callee (f:=4) rfl ?_);refine goesL_ (some 12) rfl rfl Try.func4 (by kernel_rfl) rfl #[.agg #[.slice A0_0 l0_0.length c0_0],.int .i64 1048576] rfl zq_ ?_;(with_reducible refine (laws_szGrammar.calls k _ _ l0_0 1048576 t362 _ ?side1 ?side2 A3.out).mono ?_);(case side1 => repeat (first|exact (Kd.C_below HR0_0.out HB.out)|(with_reducible refine Kd.C_alloc ?_ _)|(with_reducible refine Kd.C_drewN ?_ _)|(with_reducible refine Kd.C_drew ?_)));(case side2 => exact HC0_0.out);rintro e w146 ⟨rfl,hb⟩;refine ⟨_,rfl,?_⟩;have n0_:=zm_ (blk_below (g:=gb360) (o:=.cells #[.slice A0_0 l0_0.length c0_0] 24 (0,0)) (by (with_reducible repeat first|refine zl_ ?_ _|refine zr_ ?_|refine zk_ ?_ _);exact BK360.out) hb);have n1_:=zm_ (blk_below (g:=gb361) (o:=.cells #[.slice A1_0 l1_0.length c1_0] 27 (0,0)) (by (with_reducible repeat first|refine zl_ ?_ _|refine zr_ ?_|refine zk_ ?_ _);exact BK361.out) hb);have n2_:=zm_ (below_step (by repeat (first|(with_reducible first|exact HB.out|apply za_|apply zn_|apply zd_|refine zs_ ?_ GE360.out|refine zs_ ?_ GE361.out)|exact HB.out)) hb);clear BK360;clear BK361;clear HB;have BK360:=n0_;have BK361:=n1_;have HB:=n2_;clear n0_ n1_ n2_;(try clear hb);have hcz147_0 : w146.cell? ⟨gb361,0,none⟩ = some (.slice A1_0 l1_0.length c1_0):=(zc_ BK361.out 0).trans rfl;have hfz147_0:=zf_ BK361.out 0)|((with_reducible refine gate_callee (f:=5) rfl ?_);refine goesL_ (some 17) rfl rfl Try.func5 (by kernel_rfl) rfl #[.agg #[.slice A1_0 l1_0.length c1_0],.int .i64 t362] rfl zq_ ?_;(with_reducible refine (laws_szTree.calls k _ _ l1_0 t362 t363 _ ?side1 ?side2 A10.out).mono ?_);(case side1 => repeat (first|exact (Kd.C_below HR1_0.out HB.out)|(with_reducible refine Kd.C_alloc ?_ _)|(with_reducible refine Kd.C_drewN ?_ _)|(with_reducible refine Kd.C_drew ?_)));(case side2 => exact HC1_0.out);rintro e w148 ⟨rfl,hb⟩;refine ⟨_,rfl,?_⟩;have n0_:=zm_ (blk_below (g:=gb360) (o:=.cells #[.slice A0_0 l0_0.length c0_0] 24 (0,0)) (by (with_reducible repeat first|refine zl_ ?_ _|refine zr_ ?_|refine zk_ ?_ _);exact BK360.out) hb);have n1_:=zm_ (blk_below (g:=gb361) (o:=.cells #[.slice A1_0 l1_0.length c1_0] 27 (0,0)) (by (with_reducible repeat first|refine zl_ ?_ _|refine zr_ ?_|refine zk_ ?_ _);exact BK361.out) hb);have n2_:=zm_ (below_step (by repeat (first|(with_reducible first|exact HB.out|apply za_|apply zn_|apply zd_|refine zs_ ?_ GE360.out|refine zs_ ?_ GE361.out)|exact HB.out)) hb);clear BK360;clear BK361;clear HB;have BK360:=n0_;have BK361:=n1_;have HB:=n2_;clear n0_ n1_ n2_;(try clear hb)))
    have n0_:=zm_ (zr_ BK360.out)
    have n1_:=zm_ (zr_ BK361.out)
    have n2_:=zm_ (zd_ HB.out)
    clear BK360
    clear BK361
    clear HB
    have BK360:=n0_
    have BK361:=n1_
    have HB:=n2_
    clear n0_ n1_ n2_
    refine start_ (n:=6) (S:=fun w' => w'.cell? ⟨gb360,0,none⟩ = some (.slice A0_0 l0_0.length c0_0) ∧ w'.cell? ⟨gb361,0,none⟩ = some (.slice A1_0 l1_0.length c1_0)) (ds:=[]) #[false,false,false,false,false,false] (by kernel_rfl) rfl rfl ⟨(zc_ BK360.out 0).trans rfl,(zc_ BK361.out 0).trans rfl⟩ (fun hHeld => ?_)
    generalize w148.drew = w149 at BK360 BK361 HB hHeld ⊢
    refine take_ (i:=0) (N:=some 20) (v:=?_) (a':=?_) #[true,false,false,false,false,false] rfl rfl (by kernel_rfl) (fun _ _ _ h => h) (Or.inl ⟨by rfl,?_⟩) hHeld ?_ ?_
    rotate_left
    ·rintro w' ⟨s0,s1⟩
     go_simp
     with_reducible rfl
    rotate_left
    ·simp only [Act.put,List.setIfInBounds_toArray,List.set_cons_zero,List.set_cons_succ,i64_w,i32_w,IntKind.wrap_u8]
     rfl
    refine take_ (i:=2) (N:=some 22) (v:=?_) (a':=?_) #[true,false,true,false,false,false] rfl rfl (by kernel_rfl) (fun _ _ _ h => h) (Or.inl ⟨by rfl,?_⟩) hHeld ?_ ?_
    rotate_left
    ·rintro w' ⟨s0,s1⟩
     go_simp
     with_reducible rfl
    rotate_left
    ·simp only [Act.put,List.setIfInBounds_toArray,List.set_cons_zero,List.set_cons_succ,i64_w,i32_w,IntKind.wrap_u8]
     rfl
    refine one_ (i:=1) (N:=some 21) #[true,true,true,false,false,false] rfl rfl (by kernel_rfl) (by decide) (fun K hK => ?_)
    refine goes_ Try.func7 (by kernel_rfl) rfl #[.agg #[.slice A0_0 l0_0.length c0_0]] (by rfl) rfl rfl zq_ ?_
    with_reducible refine (laws_toGrammar.calls k _ _ l0_0 t364 _ ?side1 ?side2 A19.out).mono ?_
    (case side1 => repeat (first|exact (Kd.C_below HR0_0.out HB.out)|(with_reducible refine Kd.C_alloc ?_ _)|(with_reducible refine Kd.C_drewN ?_ _)|(with_reducible refine Kd.C_drew ?_)))
    (case side2 => exact HC0_0.out)
    rintro e w150 ⟨v365,rfl,ho0,hb⟩
    refine ⟨_,rfl,?_⟩
    have n0_:=zm_ (Kd.R_lower ho0 (below_size (by repeat (first|(with_reducible first|exact HB.out|apply za_|apply zn_|apply zd_|refine zs_ ?_ GE360.out|refine zs_ ?_ GE361.out)|exact HB.out))))
    have n1_:=zm_ (blk_below (g:=gb360) (o:=.cells #[.slice A0_0 l0_0.length c0_0] 24 (0,0)) (by (with_reducible repeat first|refine zl_ ?_ _|refine zr_ ?_|refine zk_ ?_ _);exact BK360.out) hb)
    have n2_:=zm_ (blk_below (g:=gb361) (o:=.cells #[.slice A1_0 l1_0.length c1_0] 27 (0,0)) (by (with_reducible repeat first|refine zl_ ?_ _|refine zr_ ?_|refine zk_ ?_ _);exact BK361.out) hb)
    have n3_:=zm_ (below_step (by repeat (first|(with_reducible first|exact HB.out|apply za_|apply zn_|apply zd_|refine zs_ ?_ GE360.out|refine zs_ ?_ GE361.out)|exact HB.out)) hb)
    clear BK360
    clear BK361
    clear HB
    have HO366:=n0_
    have BK360:=n1_
    have BK361:=n2_
    have HB:=n3_
    clear n0_ n1_ n2_ n3_
    (try clear hb)
    (try clear hb2)
    (try clear hk)
    (try clear hi)
    (try clear ho0)
    refine hK.out _ _ ⟨(zc_ BK360.out 0).trans rfl,(zc_ BK361.out 0).trans rfl⟩ (fun hHeld => ?_)
    clear hK K
    refine norm_ (a':=?_) ?_ ?_
    rotate_left
    ·show Act.put _ (some 21) _ = _
     simp only [Act.put,List.setIfInBounds_toArray,List.set_cons_zero,List.set_cons_succ,i64_w,i32_w,IntKind.wrap_u8]
     rfl
    refine one_ (i:=3) (N:=some 23) #[true,true,true,true,false,false] rfl rfl (by kernel_rfl) (by decide) (fun K hK => ?_)
    refine goes_ Try.func8 (by kernel_rfl) rfl #[.agg #[.slice A1_0 l1_0.length c1_0]] (by rfl) rfl rfl zq_ ?_
    with_reducible refine (laws_toTree.calls k _ _ l1_0 t367 _ ?side1 ?side2 A20.out).mono ?_
    (case side1 => repeat (first|exact (Kd.C_below HR1_0.out HB.out)|(with_reducible refine Kd.C_alloc ?_ _)|(with_reducible refine Kd.C_drewN ?_ _)|(with_reducible refine Kd.C_drew ?_)))
    (case side2 => exact HC1_0.out)
    rintro e w151 ⟨v368,rfl,ho0,hb⟩
    refine ⟨_,rfl,?_⟩
    have n0_:=zm_ (Kd.R_below (by (with_reducible repeat (first|apply Kd.R_alloc|apply Kd.R_drewN|apply Kd.R_drew));exact HO366.out) hb)
    have n1_:=zm_ (Kd.S_lower ho0 (below_size (by repeat (first|(with_reducible first|exact HB.out|apply za_|apply zn_|apply zd_|refine zs_ ?_ GE360.out|refine zs_ ?_ GE361.out)|exact HB.out))))
    have n2_:=zm_ (blk_below (g:=gb360) (o:=.cells #[.slice A0_0 l0_0.length c0_0] 24 (0,0)) (by (with_reducible repeat first|refine zl_ ?_ _|refine zr_ ?_|refine zk_ ?_ _);exact BK360.out) hb)
    have n3_:=zm_ (blk_below (g:=gb361) (o:=.cells #[.slice A1_0 l1_0.length c1_0] 27 (0,0)) (by (with_reducible repeat first|refine zl_ ?_ _|refine zr_ ?_|refine zk_ ?_ _);exact BK361.out) hb)
    have n4_:=zm_ (below_step (by repeat (first|(with_reducible first|exact HB.out|apply za_|apply zn_|apply zd_|refine zs_ ?_ GE360.out|refine zs_ ?_ GE361.out)|exact HB.out)) hb)
    clear HO366
    clear BK360
    clear BK361
    clear HB
    have HO366:=n0_
    have HO369:=n1_
    have BK360:=n2_
    have BK361:=n3_
    have HB:=n4_
    clear n0_ n1_ n2_ n3_ n4_
    (try clear hb)
    (try clear hb2)
    (try clear hk)
    (try clear hi)
    (try clear ho0)
    obtain ⟨Ao152,co152,eo152⟩:=Kd.R_slice HO366.out
    (first|subst eo152|(injection eo152 with f1_ f2_ f3_;have f4_:=f1_.symm;have f5_:=f3_.symm;clear f1_ f2_ f3_;subst f4_;subst f5_))
    obtain ⟨Ao153,co153,eo153⟩:=Kd.S_slice HO369.out
    (first|subst eo153|(injection eo153 with f1_ f2_ f3_;have f4_:=f1_.symm;have f5_:=f3_.symm;clear f1_ f2_ f3_;subst f4_;subst f5_))
    refine hK.out _ _ ⟨(zc_ BK360.out 0).trans rfl,(zc_ BK361.out 0).trans rfl⟩ (fun hHeld => ?_)
    clear hK K
    refine norm_ (a':=?_) ?_ ?_
    rotate_left
    ·show Act.put _ (some 23) _ = _
     simp only [Act.put,List.setIfInBounds_toArray,List.set_cons_zero,List.set_cons_succ,i64_w,i32_w,IntKind.wrap_u8]
     rfl
    refine one_ (i:=4) (N:=some 24) #[true,true,true,true,true,false] rfl rfl (by kernel_rfl) (by decide) (fun K hK => ?_)
    refine goes_ Try.func6 (by kernel_rfl) rfl #[.agg #[.slice Ao152 t364.length co152],.agg #[.slice Ao153 t367.length co153]] (by rfl) rfl rfl zq_ ?_
    with_reducible refine (spec_TreeText.calls k _ _ t364 _ _ t367 t370 _ ?side1 ?side2 ?side3 ?side4 A21.out).mono ?_
    (case side1 => repeat (first|exact (Kd.R_reads' HO366.out).2.2|(with_reducible refine Kd.C_alloc ?_ _)|(with_reducible refine Kd.C_drewN ?_ _)|(with_reducible refine Kd.C_drew ?_)))
    (case side2 => exact (Kd.R_reads' HO366.out).2.1)
    (case side3 => repeat (first|exact (Kd.S_reads' HO369.out).2.2|(with_reducible refine Kd.C_alloc ?_ _)|(with_reducible refine Kd.C_drewN ?_ _)|(with_reducible refine Kd.C_drew ?_)))
    (case side4 => exact (Kd.S_reads' HO369.out).2.1)
    rintro e w154 ⟨rfl,hb⟩
    refine ⟨_,rfl,?_⟩
    have n0_:=zm_ (Kd.R_below (by (with_reducible repeat (first|apply Kd.R_alloc|apply Kd.R_drewN|apply Kd.R_drew));exact HO366.out) hb)
    have n1_:=zm_ (Kd.S_below (by (with_reducible repeat (first|apply Kd.S_alloc|apply Kd.S_drewN|apply Kd.S_drew));exact HO369.out) hb)
    have n2_:=zm_ (blk_below (g:=gb360) (o:=.cells #[.slice A0_0 l0_0.length c0_0] 24 (0,0)) (by (with_reducible repeat first|refine zl_ ?_ _|refine zr_ ?_|refine zk_ ?_ _);exact BK360.out) hb)
    have n3_:=zm_ (blk_below (g:=gb361) (o:=.cells #[.slice A1_0 l1_0.length c1_0] 27 (0,0)) (by (with_reducible repeat first|refine zl_ ?_ _|refine zr_ ?_|refine zk_ ?_ _);exact BK361.out) hb)
    have n4_:=zm_ (below_step (by repeat (first|(with_reducible first|exact HB.out|apply za_|apply zn_|apply zd_|refine zs_ ?_ GE360.out|refine zs_ ?_ GE361.out)|exact HB.out)) hb)
    clear HO366
    clear HO369
    clear BK360
    clear BK361
    clear HB
    have HO366:=n0_
    have HO369:=n1_
    have BK360:=n2_
    have BK361:=n3_
    have HB:=n4_
    clear n0_ n1_ n2_ n3_ n4_
    (try clear hb)
    (try clear hb2)
    (try clear hk)
    (try clear hi)
    refine hK.out _ _ ⟨(zc_ BK360.out 0).trans rfl,(zc_ BK361.out 0).trans rfl⟩ (fun hHeld => ?_)
    clear hK K
    refine norm_ (a':=?_) ?_ ?_
    rotate_left
    ·show Act.put _ (some 24) _ = _
     simp only [Act.put,List.setIfInBounds_toArray,List.set_cons_zero,List.set_cons_succ,i64_w,i32_w,IntKind.wrap_u8]
     rfl
    refine pure_ (i:=5) (N:=some 6) (v:=?_) (a':=?_) #[true,true,true,true,true,true] rfl rfl (by kernel_rfl) (fun _ _ _ h => h) (Or.inl ⟨by rfl,?_⟩) ?_ ?_
    rotate_left
    ·intro w'
     go_simp
     with_reducible rfl
    rotate_left
    ·simp only [Act.put,List.setIfInBounds_toArray,List.set_cons_zero,List.set_cons_succ,i64_w,i32_w,IntKind.wrap_u8]
     rfl
    refine done_ (by kernel_rfl) ?_
    have hcz155_0 : w154.cell? ⟨gb360,0,none⟩ = some (.slice A0_0 l0_0.length c0_0):=(zc_ BK360.out 0).trans rfl
    have hfz155_0:=zf_ BK360.out 0
    try go_wp2_with (first|((with_reducible refine gate_callee (f:=7) rfl ?_);refine goesL_ (some 26) rfl rfl Try.func7 (by kernel_rfl) rfl #[.agg #[.slice A0_0 l0_0.length c0_0]] rfl zq_ ?_;(with_reducible refine (laws_toGrammar.calls k _ _ l0_0 t371 _ ?side1 ?side2 A22.out).mono ?_);(case side1 => repeat (first|exact (Kd.C_below HR0_0.out HB.out)|(with_reducible refine Kd.C_alloc ?_ _)|(with_reducible refine Kd.C_drewN ?_ _)|(with_reducible refine Kd.C_drew ?_)));(case side2 => exact HC0_0.out);rintro e w156 ⟨v372,rfl,ho0,hb⟩;refine ⟨_,rfl,?_⟩;have n0_:=zm_ (Kd.R_elder' (by (with_reducible repeat (first|apply Kd.R_alloc|apply Kd.R_drewN|apply Kd.R_drew));exact HO366.out) (Kd.R_base ho0) hb);have n1_:=zm_ (Kd.S_below (by (with_reducible repeat (first|apply Kd.S_alloc|apply Kd.S_drewN|apply Kd.S_drew));exact HO369.out) hb);have n2_:=zm_ (Kd.R_lower (Kd.R_new' ho0 (Kd.R_lt (by (with_reducible repeat (first|apply Kd.R_alloc|apply Kd.R_drewN|apply Kd.R_drew));exact HO366.out))) (below_size (by repeat (first|(with_reducible first|exact HB.out|apply za_|apply zn_|apply zd_|refine zs_ ?_ GE360.out|refine zs_ ?_ GE361.out)|exact HB.out))));have n3_:=zm_ (blk_below (g:=gb360) (o:=.cells #[.slice A0_0 l0_0.length c0_0] 24 (0,0)) (by (with_reducible repeat first|refine zl_ ?_ _|refine zr_ ?_|refine zk_ ?_ _);exact BK360.out) hb);have n4_:=zm_ (blk_below (g:=gb361) (o:=.cells #[.slice A1_0 l1_0.length c1_0] 27 (0,0)) (by (with_reducible repeat first|refine zl_ ?_ _|refine zr_ ?_|refine zk_ ?_ _);exact BK361.out) hb);have n5_:=zm_ (below_step (by repeat (first|(with_reducible first|exact HB.out|apply za_|apply zn_|apply zd_|refine zs_ ?_ GE360.out|refine zs_ ?_ GE361.out)|exact HB.out)) hb);clear HO366;clear HO369;clear BK360;clear BK361;clear HB;have HO366:=n0_;have HO369:=n1_;have HO373:=n2_;have BK360:=n3_;have BK361:=n4_;have HB:=n5_;clear n0_ n1_ n2_ n3_ n4_ n5_;(try clear hb);(try clear hb2);(try clear hk);(try clear hi);(try clear ho0))|((with_reducible refine gate_dst (N:=7) rfl ?_);refine box_event ?hg (N:=7) ?hd (cs:=#[.slice none 0 0]) (t:=33) ?hr ?_;(case hd => rfl);(case hg => rfl);(case hr => first|(go_simp;done)|(go_simp;rfl));intro gb374 hg w157 hbox hb;have n0_:=zm_ (Kd.R_below (by (with_reducible repeat (first|apply Kd.R_alloc|apply Kd.R_drewN|apply Kd.R_drew));exact HO366.out) hb);have n1_:=zm_ (Kd.S_below (by (with_reducible repeat (first|apply Kd.S_alloc|apply Kd.S_drewN|apply Kd.S_drew));exact HO369.out) hb);have n2_:=zm_ (Kd.R_below (by (with_reducible repeat (first|apply Kd.R_alloc|apply Kd.R_drewN|apply Kd.R_drew));exact HO373.out) hb);have n3_:=zm_ (blk_below (g:=gb360) (o:=.cells #[.slice A0_0 l0_0.length c0_0] 24 (0,0)) (by (with_reducible repeat first|refine zl_ ?_ _|refine zr_ ?_|refine zk_ ?_ _);exact BK360.out) hb);have n4_:=zm_ (blk_below (g:=gb361) (o:=.cells #[.slice A1_0 l1_0.length c1_0] 27 (0,0)) (by (with_reducible repeat first|refine zl_ ?_ _|refine zr_ ?_|refine zk_ ?_ _);exact BK361.out) hb);have n5_:=zm_ (below_step (by repeat (first|(with_reducible first|exact HB.out|apply za_|apply zn_|apply zd_|refine zs_ ?_ GE360.out|refine zs_ ?_ GE361.out)|exact HB.out)) hb);have n6_:=zm_ (hbox);have n7_:=zm_ ((by rw [hg];exact (below_size (by repeat (first|(with_reducible first|exact HB.out|apply za_|apply zn_|apply zd_|refine zs_ ?_ GE360.out|refine zs_ ?_ GE361.out)|exact HB.out))) : w.heap.size ≤ gb374));have n8_:=zm_ ((by rw [hg];exact (below_size (by repeat (first|(with_reducible first|exact HB.out|apply za_|apply zn_|apply zd_|refine zs_ ?_ GE360.out|refine zs_ ?_ GE361.out)|exact HB.out))) : w.heap.size ≤ gb374));have n9_:=zm_ ((by rw [hg];exact Nat.ne_of_lt (blk_lt (g:=gb360) (o:=.cells #[.slice A0_0 l0_0.length c0_0] 24 (0,0)) (by (with_reducible repeat first|refine zl_ ?_ _|refine zr_ ?_|refine zk_ ?_ _);exact BK360.out)) : gb360 ≠ gb374));have n10_:=zm_ ((by rw [hg];exact Nat.ne_of_gt (blk_lt (g:=gb360) (o:=.cells #[.slice A0_0 l0_0.length c0_0] 24 (0,0)) (by (with_reducible repeat first|refine zl_ ?_ _|refine zr_ ?_|refine zk_ ?_ _);exact BK360.out)) : gb374 ≠ gb360));have n11_:=zm_ ((by rw [hg];exact Nat.ne_of_lt (blk_lt (g:=gb361) (o:=.cells #[.slice A1_0 l1_0.length c1_0] 27 (0,0)) (by (with_reducible repeat first|refine zl_ ?_ _|refine zr_ ?_|refine zk_ ?_ _);exact BK361.out)) : gb361 ≠ gb374));have n12_:=zm_ ((by rw [hg];exact Nat.ne_of_gt (blk_lt (g:=gb361) (o:=.cells #[.slice A1_0 l1_0.length c1_0] 27 (0,0)) (by (with_reducible repeat first|refine zl_ ?_ _|refine zr_ ?_|refine zk_ ?_ _);exact BK361.out)) : gb374 ≠ gb361));clear HO366;clear HO369;clear HO373;clear BK360;clear BK361;clear HB;have HO366:=n0_;have HO369:=n1_;have HO373:=n2_;have BK360:=n3_;have BK361:=n4_;have HB:=n5_;have BK374:=n6_;have GW374:=n7_;have GE374:=n8_;have NB360_374:=n9_;have NB374_360:=n10_;have NB361_374:=n11_;have NB374_361:=n12_;clear n0_ n1_ n2_ n3_ n4_ n5_ n6_ n7_ n8_ n9_ n10_ n11_ n12_;clear hb hbox hg;obtain ⟨Ao158,co158,eo158⟩:=Kd.R_slice HO373.out;subst eo158;have hnb159:=NB374_360.out;have hnc159:=NB360_374.out;have hnb160:=NB374_361.out;have hnc160:=NB361_374.out;have hcz161_0 : w157.cell? ⟨gb374,0,none⟩ = some (.slice none 0 0):=(zc_ BK374.out 0).trans rfl;have hfz161_0:=zf_ BK374.out 0;have hcz162_0 : w157.cell? ⟨gb361,0,none⟩ = some (.slice A1_0 l1_0.length c1_0):=(zc_ BK361.out 0).trans rfl;have hfz162_0:=zf_ BK361.out 0)|((with_reducible refine gate_callee (f:=8) rfl ?_);refine goesL_ (some 28) rfl rfl Try.func8 (by kernel_rfl) rfl #[.agg #[.slice A1_0 l1_0.length c1_0]] rfl zq_ ?_;(with_reducible refine (laws_toTree.calls k _ _ l1_0 t375 _ ?side1 ?side2 A23.out).mono ?_);(case side1 => exact Kd.C_below HR1_0.out (by repeat (first|(with_reducible first|exact HB.out|apply za_|apply zn_|apply zd_|refine zs_ ?_ GE360.out|refine zs_ ?_ GE361.out|refine zs_ ?_ GE374.out)|exact HB.out)));(case side2 => exact HC1_0.out);rintro e w163 ⟨v376,rfl,ho0,hb⟩;refine ⟨_,rfl,?_⟩;have n0_:=zm_ (Kd.R_below (by (with_reducible repeat (first|apply Kd.R_alloc|apply Kd.R_drewN|apply Kd.R_drew));exact (Kd.R_mono (Kd.R_far (p:=⟨gb374,0,none⟩) (Kd.R_types HO366.out BK374.out (by decide)) (fun _ hk => hk.2) (.slice Ao158 t371.length co158)) (fun _ h_ => h_.1))) hb);have n1_:=zm_ (Kd.S_elder' (by (with_reducible repeat (first|apply Kd.S_alloc|apply Kd.S_drewN|apply Kd.S_drew));exact (Kd.S_mono (Kd.S_far (p:=⟨gb374,0,none⟩) (Kd.S_types HO369.out BK374.out (by decide)) (fun _ hk => hk.2) (.slice Ao158 t371.length co158)) (fun _ h_ => h_.1))) (Kd.S_base ho0) hb);have n2_:=zm_ (Kd.R_below (by (with_reducible repeat (first|apply Kd.R_alloc|apply Kd.R_drewN|apply Kd.R_drew));exact (Kd.R_mono (Kd.R_far (p:=⟨gb374,0,none⟩) (Kd.R_types HO373.out BK374.out (by decide)) (fun _ hk => hk.2) (.slice Ao158 t371.length co158)) (fun _ h_ => h_.1))) hb);have n3_:=zm_ (Kd.S_lower (Kd.S_new' ho0 (Kd.S_lt (by (with_reducible repeat (first|apply Kd.S_alloc|apply Kd.S_drewN|apply Kd.S_drew));exact (Kd.S_mono (Kd.S_far (p:=⟨gb374,0,none⟩) (Kd.S_types HO369.out BK374.out (by decide)) (fun _ hk => hk.2) (.slice Ao158 t371.length co158)) (fun _ h_ => h_.1))))) (below_size (by repeat (first|(with_reducible first|exact HB.out|apply za_|apply zn_|apply zd_|refine zs_ ?_ GE360.out|refine zs_ ?_ GE361.out|refine zs_ ?_ GE374.out)|exact HB.out))));have n4_:=zm_ (blk_below (g:=gb360) (o:=.cells #[.slice A0_0 l0_0.length c0_0] 24 (0,0)) (by (with_reducible repeat first|refine zl_ ?_ _|refine zr_ ?_|refine zk_ ?_ _);refine blk_far ?_ NB360_374.out _;(with_reducible repeat first|refine zl_ ?_ _|refine zr_ ?_|refine zk_ ?_ _);exact BK360.out) hb);have n5_:=zm_ (blk_below (g:=gb361) (o:=.cells #[.slice A1_0 l1_0.length c1_0] 27 (0,0)) (by (with_reducible repeat first|refine zl_ ?_ _|refine zr_ ?_|refine zk_ ?_ _);refine blk_far ?_ NB361_374.out _;(with_reducible repeat first|refine zl_ ?_ _|refine zr_ ?_|refine zk_ ?_ _);exact BK361.out) hb);have n6_:=zm_ (blk_below (g:=gb374) (o:=.cells #[.slice Ao158 t371.length co158] 33 (0,0)) (by (with_reducible repeat first|refine zl_ ?_ _|refine zr_ ?_|refine zk_ ?_ _);refine blk_put (cs:=#[.slice none 0 0]) ?_ 0 _ rfl;(with_reducible repeat first|refine zl_ ?_ _|refine zr_ ?_|refine zk_ ?_ _);exact BK374.out) hb);have n7_:=zm_ (below_step (by repeat (first|(with_reducible first|exact HB.out|apply za_|apply zn_|apply zd_|refine zs_ ?_ GE360.out|refine zs_ ?_ GE361.out|refine zs_ ?_ GE374.out)|exact HB.out)) hb);clear HO366;clear HO369;clear HO373;clear BK360;clear BK361;clear BK374;clear HB;have HO366:=n0_;have HO369:=n1_;have HO373:=n2_;have HO377:=n3_;have BK360:=n4_;have BK361:=n5_;have BK374:=n6_;have HB:=n7_;clear n0_ n1_ n2_ n3_ n4_ n5_ n6_ n7_;(try clear hb);(try clear hb2);(try clear hk);(try clear hi);(try clear ho0))|((with_reducible refine gate_dst (N:=8) rfl ?_);refine box_event ?hg (N:=8) ?hd (cs:=#[.slice none 0 0]) (t:=37) ?hr ?_;(case hd => rfl);(case hg => rfl);(case hr => first|(go_simp;done)|(go_simp;rfl));intro gb378 hg w164 hbox hb;have n0_:=zm_ (Kd.R_below (by (with_reducible repeat (first|apply Kd.R_alloc|apply Kd.R_drewN|apply Kd.R_drew));exact HO366.out) hb);have n1_:=zm_ (Kd.S_below (by (with_reducible repeat (first|apply Kd.S_alloc|apply Kd.S_drewN|apply Kd.S_drew));exact HO369.out) hb);have n2_:=zm_ (Kd.R_below (by (with_reducible repeat (first|apply Kd.R_alloc|apply Kd.R_drewN|apply Kd.R_drew));exact HO373.out) hb);have n3_:=zm_ (Kd.S_below (by (with_reducible repeat (first|apply Kd.S_alloc|apply Kd.S_drewN|apply Kd.S_drew));exact HO377.out) hb);have n4_:=zm_ (blk_below (g:=gb360) (o:=.cells #[.slice A0_0 l0_0.length c0_0] 24 (0,0)) (by (with_reducible repeat first|refine zl_ ?_ _|refine zr_ ?_|refine zk_ ?_ _);exact BK360.out) hb);have n5_:=zm_ (blk_below (g:=gb361) (o:=.cells #[.slice A1_0 l1_0.length c1_0] 27 (0,0)) (by (with_reducible repeat first|refine zl_ ?_ _|refine zr_ ?_|refine zk_ ?_ _);exact BK361.out) hb);have n6_:=zm_ (blk_below (g:=gb374) (o:=.cells #[.slice Ao158 t371.length co158] 33 (0,0)) (by (with_reducible repeat first|refine zl_ ?_ _|refine zr_ ?_|refine zk_ ?_ _);exact BK374.out) hb);have n7_:=zm_ (below_step (by repeat (first|(with_reducible first|exact HB.out|apply za_|apply zn_|apply zd_|refine zs_ ?_ GE360.out|refine zs_ ?_ GE361.out|refine zs_ ?_ GE374.out)|exact HB.out)) hb);have n8_:=zm_ (hbox);have n9_:=zm_ ((by rw [hg];exact (below_size (by repeat (first|(with_reducible first|exact HB.out|apply za_|apply zn_|apply zd_|refine zs_ ?_ GE360.out|refine zs_ ?_ GE361.out|refine zs_ ?_ GE374.out)|exact HB.out))) : w.heap.size ≤ gb378));have n10_:=zm_ ((by rw [hg];exact (below_size (by repeat (first|(with_reducible first|exact HB.out|apply za_|apply zn_|apply zd_|refine zs_ ?_ GE360.out|refine zs_ ?_ GE361.out|refine zs_ ?_ GE374.out)|exact HB.out))) : w.heap.size ≤ gb378));have n11_:=zm_ ((by rw [hg];exact Nat.ne_of_lt (blk_lt (g:=gb360) (o:=.cells #[.slice A0_0 l0_0.length c0_0] 24 (0,0)) (by (with_reducible repeat first|refine zl_ ?_ _|refine zr_ ?_|refine zk_ ?_ _);exact BK360.out)) : gb360 ≠ gb378));have n12_:=zm_ ((by rw [hg];exact Nat.ne_of_gt (blk_lt (g:=gb360) (o:=.cells #[.slice A0_0 l0_0.length c0_0] 24 (0,0)) (by (with_reducible repeat first|refine zl_ ?_ _|refine zr_ ?_|refine zk_ ?_ _);exact BK360.out)) : gb378 ≠ gb360));have n13_:=zm_ ((by rw [hg];exact Nat.ne_of_lt (blk_lt (g:=gb361) (o:=.cells #[.slice A1_0 l1_0.length c1_0] 27 (0,0)) (by (with_reducible repeat first|refine zl_ ?_ _|refine zr_ ?_|refine zk_ ?_ _);exact BK361.out)) : gb361 ≠ gb378));have n14_:=zm_ ((by rw [hg];exact Nat.ne_of_gt (blk_lt (g:=gb361) (o:=.cells #[.slice A1_0 l1_0.length c1_0] 27 (0,0)) (by (with_reducible repeat first|refine zl_ ?_ _|refine zr_ ?_|refine zk_ ?_ _);exact BK361.out)) : gb378 ≠ gb361));have n15_:=zm_ ((by rw [hg];exact Nat.ne_of_lt (blk_lt (g:=gb374) (o:=.cells #[.slice Ao158 t371.length co158] 33 (0,0)) (by (with_reducible repeat first|refine zl_ ?_ _|refine zr_ ?_|refine zk_ ?_ _);exact BK374.out)) : gb374 ≠ gb378));have n16_:=zm_ ((by rw [hg];exact Nat.ne_of_gt (blk_lt (g:=gb374) (o:=.cells #[.slice Ao158 t371.length co158] 33 (0,0)) (by (with_reducible repeat first|refine zl_ ?_ _|refine zr_ ?_|refine zk_ ?_ _);exact BK374.out)) : gb378 ≠ gb374));clear HO366;clear HO369;clear HO373;clear HO377;clear BK360;clear BK361;clear BK374;clear HB;have HO366:=n0_;have HO369:=n1_;have HO373:=n2_;have HO377:=n3_;have BK360:=n4_;have BK361:=n5_;have BK374:=n6_;have HB:=n7_;have BK378:=n8_;have GW378:=n9_;have GE378:=n10_;have NB360_378:=n11_;have NB378_360:=n12_;have NB361_378:=n13_;have NB378_361:=n14_;have NB374_378:=n15_;have NB378_374:=n16_;clear n0_ n1_ n2_ n3_ n4_ n5_ n6_ n7_ n8_ n9_ n10_ n11_ n12_ n13_ n14_ n15_ n16_;clear hb hbox hg;obtain ⟨Ao165,co165,eo165⟩:=Kd.S_slice HO377.out;subst eo165;have hnb166:=NB378_360.out;have hnc166:=NB360_378.out;have hnb167:=NB378_361.out;have hnc167:=NB361_378.out;have hnb168:=NB378_374.out;have hnc168:=NB374_378.out;have hcz169_0 : w164.cell? ⟨gb378,0,none⟩ = some (.slice none 0 0):=(zc_ BK378.out 0).trans rfl;have hfz169_0:=zf_ BK378.out 0;have hcz170_0 : w164.cell? ⟨gb374,0,none⟩ = some (.slice Ao158 t371.length co158):=(zc_ BK374.out 0).trans rfl;have hfz170_0:=zf_ BK374.out 0)|((with_reducible refine gate_callee (f:=9) rfl ?_);refine goesL_ (some 31) rfl rfl Try.func9 (by kernel_rfl) rfl #[.agg #[.slice Ao158 t371.length co158],.agg #[.slice Ao165 t375.length co165]] rfl zq_ ?_;(with_reducible refine (impl_TreeText.calls k _ _ t371 _ _ t375 t379 _ ?side1 ?side2 ?side3 ?side4 A24.out).mono ?_);(case side1 => refine (Kd.R_reads' (e:=51) (base:=w.heap.size) (ok:=fun k_ => (True ∧ some k_ ≠ (.slice Ao152 t364.length co152 : Value).ownBlock)) (n:=t371.length) (c:=co158) ?_).2.2;exact (by (with_reducible repeat (first|apply Kd.R_alloc|apply Kd.R_drewN|apply Kd.R_drew));exact (Kd.R_mono (Kd.R_far (p:=⟨gb378,0,none⟩) (Kd.R_types HO373.out BK378.out (by decide)) (fun _ hk => hk.2) (.slice Ao165 t375.length co165)) (fun _ h_ => h_.1))));(case side2 => exact (Kd.R_reads' HO373.out).2.1);(case side3 => refine (Kd.S_reads' (e:=47) (base:=w.heap.size) (ok:=fun k_ => (True ∧ some k_ ≠ (.slice Ao153 t367.length co153 : Value).ownBlock)) (n:=t375.length) (c:=co165) ?_).2.2;exact (by (with_reducible repeat (first|apply Kd.S_alloc|apply Kd.S_drewN|apply Kd.S_drew));exact (Kd.S_mono (Kd.S_far (p:=⟨gb378,0,none⟩) (Kd.S_types HO377.out BK378.out (by decide)) (fun _ hk => hk.2) (.slice Ao165 t375.length co165)) (fun _ h_ => h_.1))));(case side4 => exact (Kd.S_reads' HO377.out).2.1);rintro e w171 ⟨rfl,hb⟩;refine ⟨_,rfl,?_⟩;have n0_:=zm_ (Kd.R_below (by (with_reducible repeat (first|apply Kd.R_alloc|apply Kd.R_drewN|apply Kd.R_drew));exact (Kd.R_mono (Kd.R_far (p:=⟨gb378,0,none⟩) (Kd.R_types HO366.out BK378.out (by decide)) (fun _ hk => hk.2) (.slice Ao165 t375.length co165)) (fun _ h_ => h_.1))) hb);have n1_:=zm_ (Kd.S_below (by (with_reducible repeat (first|apply Kd.S_alloc|apply Kd.S_drewN|apply Kd.S_drew));exact (Kd.S_mono (Kd.S_far (p:=⟨gb378,0,none⟩) (Kd.S_types HO369.out BK378.out (by decide)) (fun _ hk => hk.2) (.slice Ao165 t375.length co165)) (fun _ h_ => h_.1))) hb);have n2_:=zm_ (Kd.R_below (by (with_reducible repeat (first|apply Kd.R_alloc|apply Kd.R_drewN|apply Kd.R_drew));exact (Kd.R_mono (Kd.R_far (p:=⟨gb378,0,none⟩) (Kd.R_types HO373.out BK378.out (by decide)) (fun _ hk => hk.2) (.slice Ao165 t375.length co165)) (fun _ h_ => h_.1))) hb);have n3_:=zm_ (Kd.S_below (by (with_reducible repeat (first|apply Kd.S_alloc|apply Kd.S_drewN|apply Kd.S_drew));exact (Kd.S_mono (Kd.S_far (p:=⟨gb378,0,none⟩) (Kd.S_types HO377.out BK378.out (by decide)) (fun _ hk => hk.2) (.slice Ao165 t375.length co165)) (fun _ h_ => h_.1))) hb);have n4_:=zm_ (blk_below (g:=gb360) (o:=.cells #[.slice A0_0 l0_0.length c0_0] 24 (0,0)) (by (with_reducible repeat first|refine zl_ ?_ _|refine zr_ ?_|refine zk_ ?_ _);refine blk_far ?_ NB360_378.out _;(with_reducible repeat first|refine zl_ ?_ _|refine zr_ ?_|refine zk_ ?_ _);exact BK360.out) hb);have n5_:=zm_ (blk_below (g:=gb361) (o:=.cells #[.slice A1_0 l1_0.length c1_0] 27 (0,0)) (by (with_reducible repeat first|refine zl_ ?_ _|refine zr_ ?_|refine zk_ ?_ _);refine blk_far ?_ NB361_378.out _;(with_reducible repeat first|refine zl_ ?_ _|refine zr_ ?_|refine zk_ ?_ _);exact BK361.out) hb);have n6_:=zm_ (blk_below (g:=gb374) (o:=.cells #[.slice Ao158 t371.length co158] 33 (0,0)) (by (with_reducible repeat first|refine zl_ ?_ _|refine zr_ ?_|refine zk_ ?_ _);refine blk_far ?_ NB374_378.out _;(with_reducible repeat first|refine zl_ ?_ _|refine zr_ ?_|refine zk_ ?_ _);exact BK374.out) hb);have n7_:=zm_ (blk_below (g:=gb378) (o:=.cells #[.slice Ao165 t375.length co165] 37 (0,0)) (by (with_reducible repeat first|refine zl_ ?_ _|refine zr_ ?_|refine zk_ ?_ _);refine blk_put (cs:=#[.slice none 0 0]) ?_ 0 _ rfl;(with_reducible repeat first|refine zl_ ?_ _|refine zr_ ?_|refine zk_ ?_ _);exact BK378.out) hb);have n8_:=zm_ (below_step (by repeat (first|(with_reducible first|exact HB.out|apply za_|apply zn_|apply zd_|refine zs_ ?_ GE360.out|refine zs_ ?_ GE361.out|refine zs_ ?_ GE374.out|refine zs_ ?_ GE378.out)|exact HB.out)) hb);clear HO366;clear HO369;clear HO373;clear HO377;clear BK360;clear BK361;clear BK374;clear BK378;clear HB;have HO366:=n0_;have HO369:=n1_;have HO373:=n2_;have HO377:=n3_;have BK360:=n4_;have BK361:=n5_;have BK374:=n6_;have BK378:=n7_;have HB:=n8_;clear n0_ n1_ n2_ n3_ n4_ n5_ n6_ n7_ n8_;(try clear hb)))
    go_ret
    exact ⟨zE_,by repeat (first|(with_reducible first|exact HB.out|apply za_|apply zn_|apply zd_|refine zs_ ?_ GE360.out|refine zs_ ?_ GE361.out|refine zs_ ?_ GE374.out|refine zs_ ?_ GE378.out)|exact HB.out)⟩

end Go.Proofs.Ytkbgmojomgelbaa.MFnExactTreeText
