import Derived.Test.YtkbgmojomgelbaaMFnExactTreeTextx0
import Derived.Test.YtkbgmojomgelbaaMFnExactTreeTextx7
import Derived.Test.YtkbgmojomgelbaaMFnExactTreeTextx9
namespace Go.Proofs.Ytkbgmojomgelbaa.MFnExactTreeText
open Go.RowKit Go.Proofs.YtkbgmojomgelbaaW.PrintWords Go.Proofs.YtkbgmojomgelbaaW.PrintLast Go.Proofs.YtkbgmojomgelbaaW.PrintMore
attribute [local go_sem] max2_int min2_int max_two min_two max_three min_three max_four min_four
set_option linter.unusedVariables false
set_option linter.unusedSimpArgs false

def laws_eqRule.f (k : Nat) (a0_0 : ByteArray) (l0_1 : List ByteArray) (l0_2 : List (S95)) (a1_0 : ByteArray) (l1_1 : List ByteArray) (l1_2 : List (S95)) : Option (Bool):=if a0_0.toList = a1_0.toList then ((laws_eqStringS.f k l0_1 l1_1).bind fun t342 => (if t342 = true then ((laws_eqAltS.f k l0_2 l1_2).bind fun t343 => (if t343 = true then (some true) else (some false))) else (some false))) else (some false)
theorem laws_eqRule.mono : ∀ a0 a1 a2 a3 a4 a5 k,LeO (laws_eqRule.f k a0 a1 a2 a3 a4 a5) (laws_eqRule.f (k + 1) a0 a1 a2 a3 a4 a5):=by
 intro a0 a1 a2 a3 a4 a5 k
 unfold laws_eqRule.f
 repeat' first
   |(with_reducible exact laws_eqAltS.mono _ _ _)
   |(with_reducible exact laws_eqStringS.mono _ _ _)
   |(with_reducible exact LeO.refl _)
   |(with_reducible exact LeO.none _)
   |(with_reducible refine LeO.ite ?_ ?_)
   |(with_reducible refine LeO.bind ?_ (fun _ => ?_))
set_option maxHeartbeats 8000000 in
set_option maxRecDepth 100000 in
theorem laws_eqRule.calls (k : Nat) (a0_0 : ByteArray) (A0_1 : Option Addr) (c0_1 : Nat) (l0_1 : List ByteArray) (A0_2 : Option Addr) (c0_2 : Nat) (l0_2 : List (S95)) (a1_0 : ByteArray) (A1_1 : Option Addr) (c1_1 : Nat) (l1_1 : List ByteArray) (A1_2 : Option Addr) (c1_2 : Nat) (l1_2 : List (S95)) (r : Bool) (w : World) (hr0_1 : Kd.C Kd.string w A0_1 l0_1.length l0_1) (hc0_1 : l0_1.length ≤ c0_1) (hr0_2 : Kd.C k95 w A0_2 l0_2.length l0_2) (hc0_2 : l0_2.length ≤ c0_2) (hr1_1 : Kd.C Kd.string w A1_1 l1_1.length l1_1) (hc1_1 : l1_1.length ≤ c1_1) (hr1_2 : Kd.C k95 w A1_2 l1_2.length l1_2) (hc1_2 : l1_2.length ≤ c1_2) (h : laws_eqRule.f k a0_0 l0_1 l0_2 a1_0 l1_1 l1_2 = some r) :
  Calls Try.prog 30 #[.agg #[.string a0_0,.slice A0_1 l0_1.length c0_1,.slice A0_2 l0_2.length c0_2],.agg #[.string a1_0,.slice A1_1 l1_1.length c1_1,.slice A1_2 l1_2.length c1_2]] w fun e w' => e = .returned (.bool r) ∧ Below w.heap.size w w':=by
 have hu51:=Try.underlying51
 have HR0_1:=zm_ hr0_1
 have HC0_1:=zm_ hc0_1
 clear hr0_1 hc0_1
 have HR0_2:=zm_ hr0_2
 have HC0_2:=zm_ hc0_2
 clear hr0_2 hc0_2
 have HR1_1:=zm_ hr1_1
 have HC1_1:=zm_ hc1_1
 clear hr1_1 hc1_1
 have HR1_2:=zm_ hr1_2
 have HC1_2:=zm_ hc1_2
 clear hr1_2 hc1_2
 have HB:=zm_ (Below.refl w.heap.size w)
 have H : (if a0_0.toList = a1_0.toList then ((laws_eqStringS.f k l0_1 l1_1).bind fun t342 => (if t342 = true then ((laws_eqAltS.f k l0_2 l1_2).bind fun t343 => (if t343 = true then (some true) else (some false))) else (some false))) else (some false)) = some r:=h
 clear h
 by_cases c3 : a0_0.toList = a1_0.toList
 ·rw [if_pos c3] at H
  have c3b0 : (a0_0.toList == a1_0.toList) = true:=beq_iff_eq.mpr c3
  have c3b1 : (a0_0.toList != a1_0.toList) = false:=bne_eq_false_iff_eq.mpr c3
  clear c3
  replace H:=Option.bind_eq_some_iff.mp H
  obtain ⟨t342,A40,H⟩:=H
  replace H : (if t342 = true then ((laws_eqAltS.f k l0_2 l1_2).bind fun t343 => (if t343 = true then (some true) else (some false))) else (some false)) = some r:=H
  have A4:=zm_ A40
  clear A40
  by_cases c5 : t342 = true
  ·subst c5
   have H1 : ((laws_eqAltS.f k l0_2 l1_2).bind fun t343 => (if t343 = true then (some true) else (some false))) = some r:=by rw [if_pos rfl] at H;exact H
   clear H
   have H:=H1
   clear H1
   replace H:=Option.bind_eq_some_iff.mp H
   obtain ⟨t343,A60,H⟩:=H
   replace H : (if t343 = true then (some true) else (some false)) = some r:=H
   have A6:=zm_ A60
   clear A60
   by_cases c7 : t343 = true
   ·subst c7
    have H1 : (some true) = some r:=by rw [if_pos rfl] at H;exact H
    clear H
    have H:=H1
    clear H1
    obtain rfl:=Option.some.inj H
    go_enter Try.func30,Try.ntmps30
    go_wp2_with (first|((with_reducible refine gate_dst (N:=2) rfl ?_);refine box_event ?hg (N:=2) ?hd (cs:=#[.string a0_0,.slice A0_1 l0_1.length c0_1,.slice A0_2 l0_2.length c0_2]) (t:=51) ?hr ?_;(case hd => rfl);(case hg => rfl);(case hr => first|(go_simp;done)|(go_simp;rfl));intro gb340 hg w8 hbox hb;have n0_:=zm_ (below_step zB_ hb);have n1_:=zm_ (hbox);have n2_:=zm_ ((by rw [hg];exact (below_size zB_) : w.heap.size ≤ gb340));have n3_:=zm_ ((by rw [hg];exact (below_size zB_) : w.heap.size ≤ gb340));clear HB;have HB:=n0_;have BK340:=n1_;have GW340:=n2_;have GE340:=n3_;clear n0_ n1_ n2_ n3_;clear hb hbox hg)|((with_reducible refine gate_dst (N:=3) rfl ?_);refine box_event ?hg (N:=3) ?hd (cs:=#[.string a1_0,.slice A1_1 l1_1.length c1_1,.slice A1_2 l1_2.length c1_2]) (t:=51) ?hr ?_;(case hd => rfl);(case hg => rfl);(case hr => first|(go_simp;done)|(go_simp;rfl));intro gb341 hg w9 hbox hb;have n0_:=zm_ (blk_below (g:=gb340) (o:=.cells #[.string a0_0,.slice A0_1 l0_1.length c0_1,.slice A0_2 l0_2.length c0_2] 51 (0,0)) (by (with_reducible repeat first|refine zl_ ?_ _|refine zr_ ?_|refine zk_ ?_ _);exact BK340.out) hb);have n1_:=zm_ (below_step (by repeat (first|(with_reducible first|exact HB.out|apply za_|apply zn_|apply zd_|refine zs_ ?_ GE340.out)|exact HB.out)) hb);have n2_:=zm_ (hbox);have n3_:=zm_ ((by rw [hg];exact (below_size (by repeat (first|(with_reducible first|exact HB.out|apply za_|apply zn_|apply zd_|refine zs_ ?_ GE340.out)|exact HB.out))) : w.heap.size ≤ gb341));have n4_:=zm_ ((by rw [hg];exact (below_size (by repeat (first|(with_reducible first|exact HB.out|apply za_|apply zn_|apply zd_|refine zs_ ?_ GE340.out)|exact HB.out))) : w.heap.size ≤ gb341));have n5_:=zm_ ((by rw [hg];exact Nat.ne_of_lt (blk_lt (g:=gb340) (o:=.cells #[.string a0_0,.slice A0_1 l0_1.length c0_1,.slice A0_2 l0_2.length c0_2] 51 (0,0)) (by (with_reducible repeat first|refine zl_ ?_ _|refine zr_ ?_|refine zk_ ?_ _);exact BK340.out)) : gb340 ≠ gb341));have n6_:=zm_ ((by rw [hg];exact Nat.ne_of_gt (blk_lt (g:=gb340) (o:=.cells #[.string a0_0,.slice A0_1 l0_1.length c0_1,.slice A0_2 l0_2.length c0_2] 51 (0,0)) (by (with_reducible repeat first|refine zl_ ?_ _|refine zr_ ?_|refine zk_ ?_ _);exact BK340.out)) : gb341 ≠ gb340));clear BK340;clear HB;have BK340:=n0_;have HB:=n1_;have BK341:=n2_;have GW341:=n3_;have GE341:=n4_;have NB340_341:=n5_;have NB341_340:=n6_;clear n0_ n1_ n2_ n3_ n4_ n5_ n6_;clear hb hbox hg;have hnb10:=NB340_341.out;have hnc10:=NB341_340.out;have hcz11_0 : w9.cell? ⟨gb340,0,none⟩ = some (.string a0_0):=(zc_ BK340.out 0).trans rfl;have hcz11_1 : w9.cell? ⟨gb340,1,none⟩ = some (.slice A0_1 l0_1.length c0_1):=(zc_ BK340.out 1).trans rfl;have hcz11_2 : w9.cell? ⟨gb340,2,none⟩ = some (.slice A0_2 l0_2.length c0_2):=(zc_ BK340.out 2).trans rfl;have hfz11_0:=zf_ BK340.out 0;have hfz11_1:=zf_ BK340.out 1;have hfz11_2:=zf_ BK340.out 2;have hcz12_0 : w9.cell? ⟨gb341,0,none⟩ = some (.string a1_0):=(zc_ BK341.out 0).trans rfl;have hcz12_1 : w9.cell? ⟨gb341,1,none⟩ = some (.slice A1_1 l1_1.length c1_1):=(zc_ BK341.out 1).trans rfl;have hcz12_2 : w9.cell? ⟨gb341,2,none⟩ = some (.slice A1_2 l1_2.length c1_2):=(zc_ BK341.out 2).trans rfl;have hfz12_0:=zf_ BK341.out 0;have hfz12_1:=zf_ BK341.out 1;have hfz12_2:=zf_ BK341.out 2)|((with_reducible refine gate_callee (f:=40) rfl ?_);refine goesL_ (some 14) rfl rfl Try.func40 (by kernel_rfl) rfl #[.slice A0_1 l0_1.length c0_1,.slice A1_1 l1_1.length c1_1] rfl zq_ ?_;(with_reducible refine (laws_eqStringS.calls k _ _ l0_1 _ _ l1_1 true _ ?side1 ?side2 ?side3 ?side4 A4.out).mono ?_);(case side1 => repeat (first|exact (Kd.C_below HR0_1.out HB.out)|(with_reducible refine Kd.C_alloc ?_ _)|(with_reducible refine Kd.C_drewN ?_ _)|(with_reducible refine Kd.C_drew ?_)));(case side2 => exact HC0_1.out);(case side3 => repeat (first|exact (Kd.C_below HR1_1.out HB.out)|(with_reducible refine Kd.C_alloc ?_ _)|(with_reducible refine Kd.C_drewN ?_ _)|(with_reducible refine Kd.C_drew ?_)));(case side4 => exact HC1_1.out);rintro e w' ⟨rfl,⟨nd,rfl⟩⟩;refine ⟨_,rfl,?_⟩)|((with_reducible refine gate_callee (f:=41) rfl ?_);refine goesL_ (some 20) rfl rfl Try.func41 (by kernel_rfl) rfl #[.slice A0_2 l0_2.length c0_2,.slice A1_2 l1_2.length c1_2] rfl zq_ ?_;(with_reducible refine (laws_eqAltS.calls k _ _ l0_2 _ _ l1_2 true _ ?side1 ?side2 ?side3 ?side4 A6.out).mono ?_);(case side1 => repeat (first|exact (Kd.C_below HR0_2.out (by repeat (first|(with_reducible first|exact HB.out|apply za_|apply zn_|apply zd_|refine zs_ ?_ GE340.out|refine zs_ ?_ GE341.out)|exact HB.out)))|(with_reducible refine Kd.C_alloc ?_ _)|(with_reducible refine Kd.C_drewN ?_ _)|(with_reducible refine Kd.C_drew ?_)));(case side2 => exact HC0_2.out);(case side3 => repeat (first|exact (Kd.C_below HR1_2.out (by repeat (first|(with_reducible first|exact HB.out|apply za_|apply zn_|apply zd_|refine zs_ ?_ GE340.out|refine zs_ ?_ GE341.out)|exact HB.out)))|(with_reducible refine Kd.C_alloc ?_ _)|(with_reducible refine Kd.C_drewN ?_ _)|(with_reducible refine Kd.C_drew ?_)));(case side4 => exact HC1_2.out);rintro e w13 ⟨rfl,hb⟩;refine ⟨_,rfl,?_⟩;have n0_:=zm_ (blk_below (g:=gb340) (o:=.cells #[.string a0_0,.slice A0_1 l0_1.length c0_1,.slice A0_2 l0_2.length c0_2] 51 (0,0)) (by (with_reducible repeat first|refine zl_ ?_ _|refine zr_ ?_|refine zk_ ?_ _);exact BK340.out) hb);have n1_:=zm_ (blk_below (g:=gb341) (o:=.cells #[.string a1_0,.slice A1_1 l1_1.length c1_1,.slice A1_2 l1_2.length c1_2] 51 (0,0)) (by (with_reducible repeat first|refine zl_ ?_ _|refine zr_ ?_|refine zk_ ?_ _);exact BK341.out) hb);have n2_:=zm_ (below_step (by repeat (first|(with_reducible first|exact HB.out|apply za_|apply zn_|apply zd_|refine zs_ ?_ GE340.out|refine zs_ ?_ GE341.out)|exact HB.out)) hb);clear BK340;clear BK341;clear HB;have BK340:=n0_;have BK341:=n1_;have HB:=n2_;clear n0_ n1_ n2_;(try clear hb)))
    go_ret
    exact ⟨zE_,by repeat (first|(with_reducible first|exact HB.out|apply za_|apply zn_|apply zd_|refine zs_ ?_ GE340.out|refine zs_ ?_ GE341.out)|exact HB.out)⟩
   ·replace c7:=Bool.eq_false_iff.mpr c7
    subst c7
    have H1 : (some false) = some r:=by rw [if_neg (show ¬ (false = true) by decide)] at H;exact H
    clear H
    have H:=H1
    clear H1
    obtain rfl:=Option.some.inj H
    go_enter Try.func30,Try.ntmps30
    go_wp2_with (first|((with_reducible refine gate_dst (N:=2) rfl ?_);refine box_event ?hg (N:=2) ?hd (cs:=#[.string a0_0,.slice A0_1 l0_1.length c0_1,.slice A0_2 l0_2.length c0_2]) (t:=51) ?hr ?_;(case hd => rfl);(case hg => rfl);(case hr => first|(go_simp;done)|(go_simp;rfl));intro gb340 hg w14 hbox hb;have n0_:=zm_ (below_step zB_ hb);have n1_:=zm_ (hbox);have n2_:=zm_ ((by rw [hg];exact (below_size zB_) : w.heap.size ≤ gb340));have n3_:=zm_ ((by rw [hg];exact (below_size zB_) : w.heap.size ≤ gb340));clear HB;have HB:=n0_;have BK340:=n1_;have GW340:=n2_;have GE340:=n3_;clear n0_ n1_ n2_ n3_;clear hb hbox hg)|((with_reducible refine gate_dst (N:=3) rfl ?_);refine box_event ?hg (N:=3) ?hd (cs:=#[.string a1_0,.slice A1_1 l1_1.length c1_1,.slice A1_2 l1_2.length c1_2]) (t:=51) ?hr ?_;(case hd => rfl);(case hg => rfl);(case hr => first|(go_simp;done)|(go_simp;rfl));intro gb341 hg w15 hbox hb;have n0_:=zm_ (blk_below (g:=gb340) (o:=.cells #[.string a0_0,.slice A0_1 l0_1.length c0_1,.slice A0_2 l0_2.length c0_2] 51 (0,0)) (by (with_reducible repeat first|refine zl_ ?_ _|refine zr_ ?_|refine zk_ ?_ _);exact BK340.out) hb);have n1_:=zm_ (below_step (by repeat (first|(with_reducible first|exact HB.out|apply za_|apply zn_|apply zd_|refine zs_ ?_ GE340.out)|exact HB.out)) hb);have n2_:=zm_ (hbox);have n3_:=zm_ ((by rw [hg];exact (below_size (by repeat (first|(with_reducible first|exact HB.out|apply za_|apply zn_|apply zd_|refine zs_ ?_ GE340.out)|exact HB.out))) : w.heap.size ≤ gb341));have n4_:=zm_ ((by rw [hg];exact (below_size (by repeat (first|(with_reducible first|exact HB.out|apply za_|apply zn_|apply zd_|refine zs_ ?_ GE340.out)|exact HB.out))) : w.heap.size ≤ gb341));have n5_:=zm_ ((by rw [hg];exact Nat.ne_of_lt (blk_lt (g:=gb340) (o:=.cells #[.string a0_0,.slice A0_1 l0_1.length c0_1,.slice A0_2 l0_2.length c0_2] 51 (0,0)) (by (with_reducible repeat first|refine zl_ ?_ _|refine zr_ ?_|refine zk_ ?_ _);exact BK340.out)) : gb340 ≠ gb341));have n6_:=zm_ ((by rw [hg];exact Nat.ne_of_gt (blk_lt (g:=gb340) (o:=.cells #[.string a0_0,.slice A0_1 l0_1.length c0_1,.slice A0_2 l0_2.length c0_2] 51 (0,0)) (by (with_reducible repeat first|refine zl_ ?_ _|refine zr_ ?_|refine zk_ ?_ _);exact BK340.out)) : gb341 ≠ gb340));clear BK340;clear HB;have BK340:=n0_;have HB:=n1_;have BK341:=n2_;have GW341:=n3_;have GE341:=n4_;have NB340_341:=n5_;have NB341_340:=n6_;clear n0_ n1_ n2_ n3_ n4_ n5_ n6_;clear hb hbox hg;have hnb16:=NB340_341.out;have hnc16:=NB341_340.out;have hcz17_0 : w15.cell? ⟨gb340,0,none⟩ = some (.string a0_0):=(zc_ BK340.out 0).trans rfl;have hcz17_1 : w15.cell? ⟨gb340,1,none⟩ = some (.slice A0_1 l0_1.length c0_1):=(zc_ BK340.out 1).trans rfl;have hcz17_2 : w15.cell? ⟨gb340,2,none⟩ = some (.slice A0_2 l0_2.length c0_2):=(zc_ BK340.out 2).trans rfl;have hfz17_0:=zf_ BK340.out 0;have hfz17_1:=zf_ BK340.out 1;have hfz17_2:=zf_ BK340.out 2;have hcz18_0 : w15.cell? ⟨gb341,0,none⟩ = some (.string a1_0):=(zc_ BK341.out 0).trans rfl;have hcz18_1 : w15.cell? ⟨gb341,1,none⟩ = some (.slice A1_1 l1_1.length c1_1):=(zc_ BK341.out 1).trans rfl;have hcz18_2 : w15.cell? ⟨gb341,2,none⟩ = some (.slice A1_2 l1_2.length c1_2):=(zc_ BK341.out 2).trans rfl;have hfz18_0:=zf_ BK341.out 0;have hfz18_1:=zf_ BK341.out 1;have hfz18_2:=zf_ BK341.out 2)|((with_reducible refine gate_callee (f:=40) rfl ?_);refine goesL_ (some 14) rfl rfl Try.func40 (by kernel_rfl) rfl #[.slice A0_1 l0_1.length c0_1,.slice A1_1 l1_1.length c1_1] rfl zq_ ?_;(with_reducible refine (laws_eqStringS.calls k _ _ l0_1 _ _ l1_1 true _ ?side1 ?side2 ?side3 ?side4 A4.out).mono ?_);(case side1 => repeat (first|exact (Kd.C_below HR0_1.out HB.out)|(with_reducible refine Kd.C_alloc ?_ _)|(with_reducible refine Kd.C_drewN ?_ _)|(with_reducible refine Kd.C_drew ?_)));(case side2 => exact HC0_1.out);(case side3 => repeat (first|exact (Kd.C_below HR1_1.out HB.out)|(with_reducible refine Kd.C_alloc ?_ _)|(with_reducible refine Kd.C_drewN ?_ _)|(with_reducible refine Kd.C_drew ?_)));(case side4 => exact HC1_1.out);rintro e w' ⟨rfl,⟨nd,rfl⟩⟩;refine ⟨_,rfl,?_⟩)|((with_reducible refine gate_callee (f:=41) rfl ?_);refine goesL_ (some 20) rfl rfl Try.func41 (by kernel_rfl) rfl #[.slice A0_2 l0_2.length c0_2,.slice A1_2 l1_2.length c1_2] rfl zq_ ?_;(with_reducible refine (laws_eqAltS.calls k _ _ l0_2 _ _ l1_2 false _ ?side1 ?side2 ?side3 ?side4 A6.out).mono ?_);(case side1 => repeat (first|exact (Kd.C_below HR0_2.out (by repeat (first|(with_reducible first|exact HB.out|apply za_|apply zn_|apply zd_|refine zs_ ?_ GE340.out|refine zs_ ?_ GE341.out)|exact HB.out)))|(with_reducible refine Kd.C_alloc ?_ _)|(with_reducible refine Kd.C_drewN ?_ _)|(with_reducible refine Kd.C_drew ?_)));(case side2 => exact HC0_2.out);(case side3 => repeat (first|exact (Kd.C_below HR1_2.out (by repeat (first|(with_reducible first|exact HB.out|apply za_|apply zn_|apply zd_|refine zs_ ?_ GE340.out|refine zs_ ?_ GE341.out)|exact HB.out)))|(with_reducible refine Kd.C_alloc ?_ _)|(with_reducible refine Kd.C_drewN ?_ _)|(with_reducible refine Kd.C_drew ?_)));(case side4 => exact HC1_2.out);rintro e w19 ⟨rfl,hb⟩;refine ⟨_,rfl,?_⟩;have n0_:=zm_ (blk_below (g:=gb340) (o:=.cells #[.string a0_0,.slice A0_1 l0_1.length c0_1,.slice A0_2 l0_2.length c0_2] 51 (0,0)) (by (with_reducible repeat first|refine zl_ ?_ _|refine zr_ ?_|refine zk_ ?_ _);exact BK340.out) hb);have n1_:=zm_ (blk_below (g:=gb341) (o:=.cells #[.string a1_0,.slice A1_1 l1_1.length c1_1,.slice A1_2 l1_2.length c1_2] 51 (0,0)) (by (with_reducible repeat first|refine zl_ ?_ _|refine zr_ ?_|refine zk_ ?_ _);exact BK341.out) hb);have n2_:=zm_ (below_step (by repeat (first|(with_reducible first|exact HB.out|apply za_|apply zn_|apply zd_|refine zs_ ?_ GE340.out|refine zs_ ?_ GE341.out)|exact HB.out)) hb);clear BK340;clear BK341;clear HB;have BK340:=n0_;have BK341:=n1_;have HB:=n2_;clear n0_ n1_ n2_;(try clear hb)))
    go_ret
    exact ⟨zE_,by repeat (first|(with_reducible first|exact HB.out|apply za_|apply zn_|apply zd_|refine zs_ ?_ GE340.out|refine zs_ ?_ GE341.out)|exact HB.out)⟩
  ·replace c5:=Bool.eq_false_iff.mpr c5
   subst c5
   have H1 : (some false) = some r:=by rw [if_neg (show ¬ (false = true) by decide)] at H;exact H
   clear H
   have H:=H1
   clear H1
   obtain rfl:=Option.some.inj H
   go_enter Try.func30,Try.ntmps30
   go_wp2_with (first|((with_reducible refine gate_dst (N:=2) rfl ?_);refine box_event ?hg (N:=2) ?hd (cs:=#[.string a0_0,.slice A0_1 l0_1.length c0_1,.slice A0_2 l0_2.length c0_2]) (t:=51) ?hr ?_;(case hd => rfl);(case hg => rfl);(case hr => first|(go_simp;done)|(go_simp;rfl));intro gb340 hg w20 hbox hb;have n0_:=zm_ (below_step zB_ hb);have n1_:=zm_ (hbox);have n2_:=zm_ ((by rw [hg];exact (below_size zB_) : w.heap.size ≤ gb340));have n3_:=zm_ ((by rw [hg];exact (below_size zB_) : w.heap.size ≤ gb340));clear HB;have HB:=n0_;have BK340:=n1_;have GW340:=n2_;have GE340:=n3_;clear n0_ n1_ n2_ n3_;clear hb hbox hg)|((with_reducible refine gate_dst (N:=3) rfl ?_);refine box_event ?hg (N:=3) ?hd (cs:=#[.string a1_0,.slice A1_1 l1_1.length c1_1,.slice A1_2 l1_2.length c1_2]) (t:=51) ?hr ?_;(case hd => rfl);(case hg => rfl);(case hr => first|(go_simp;done)|(go_simp;rfl));intro gb341 hg w21 hbox hb;have n0_:=zm_ (blk_below (g:=gb340) (o:=.cells #[.string a0_0,.slice A0_1 l0_1.length c0_1,.slice A0_2 l0_2.length c0_2] 51 (0,0)) (by (with_reducible repeat first|refine zl_ ?_ _|refine zr_ ?_|refine zk_ ?_ _);exact BK340.out) hb);have n1_:=zm_ (below_step (by repeat (first|(with_reducible first|exact HB.out|apply za_|apply zn_|apply zd_|refine zs_ ?_ GE340.out)|exact HB.out)) hb);have n2_:=zm_ (hbox);have n3_:=zm_ ((by rw [hg];exact (below_size (by repeat (first|(with_reducible first|exact HB.out|apply za_|apply zn_|apply zd_|refine zs_ ?_ GE340.out)|exact HB.out))) : w.heap.size ≤ gb341));have n4_:=zm_ ((by rw [hg];exact (below_size (by repeat (first|(with_reducible first|exact HB.out|apply za_|apply zn_|apply zd_|refine zs_ ?_ GE340.out)|exact HB.out))) : w.heap.size ≤ gb341));have n5_:=zm_ ((by rw [hg];exact Nat.ne_of_lt (blk_lt (g:=gb340) (o:=.cells #[.string a0_0,.slice A0_1 l0_1.length c0_1,.slice A0_2 l0_2.length c0_2] 51 (0,0)) (by (with_reducible repeat first|refine zl_ ?_ _|refine zr_ ?_|refine zk_ ?_ _);exact BK340.out)) : gb340 ≠ gb341));have n6_:=zm_ ((by rw [hg];exact Nat.ne_of_gt (blk_lt (g:=gb340) (o:=.cells #[.string a0_0,.slice A0_1 l0_1.length c0_1,.slice A0_2 l0_2.length c0_2] 51 (0,0)) (by (with_reducible repeat first|refine zl_ ?_ _|refine zr_ ?_|refine zk_ ?_ _);exact BK340.out)) : gb341 ≠ gb340));clear BK340;clear HB;have BK340:=n0_;have HB:=n1_;have BK341:=n2_;have GW341:=n3_;have GE341:=n4_;have NB340_341:=n5_;have NB341_340:=n6_;clear n0_ n1_ n2_ n3_ n4_ n5_ n6_;clear hb hbox hg;have hnb22:=NB340_341.out;have hnc22:=NB341_340.out;have hcz23_0 : w21.cell? ⟨gb340,0,none⟩ = some (.string a0_0):=(zc_ BK340.out 0).trans rfl;have hcz23_1 : w21.cell? ⟨gb340,1,none⟩ = some (.slice A0_1 l0_1.length c0_1):=(zc_ BK340.out 1).trans rfl;have hcz23_2 : w21.cell? ⟨gb340,2,none⟩ = some (.slice A0_2 l0_2.length c0_2):=(zc_ BK340.out 2).trans rfl;have hfz23_0:=zf_ BK340.out 0;have hfz23_1:=zf_ BK340.out 1;have hfz23_2:=zf_ BK340.out 2;have hcz24_0 : w21.cell? ⟨gb341,0,none⟩ = some (.string a1_0):=(zc_ BK341.out 0).trans rfl;have hcz24_1 : w21.cell? ⟨gb341,1,none⟩ = some (.slice A1_1 l1_1.length c1_1):=(zc_ BK341.out 1).trans rfl;have hcz24_2 : w21.cell? ⟨gb341,2,none⟩ = some (.slice A1_2 l1_2.length c1_2):=(zc_ BK341.out 2).trans rfl;have hfz24_0:=zf_ BK341.out 0;have hfz24_1:=zf_ BK341.out 1;have hfz24_2:=zf_ BK341.out 2)|((with_reducible refine gate_callee (f:=40) rfl ?_);refine goesL_ (some 14) rfl rfl Try.func40 (by kernel_rfl) rfl #[.slice A0_1 l0_1.length c0_1,.slice A1_1 l1_1.length c1_1] rfl zq_ ?_;(with_reducible refine (laws_eqStringS.calls k _ _ l0_1 _ _ l1_1 false _ ?side1 ?side2 ?side3 ?side4 A4.out).mono ?_);(case side1 => repeat (first|exact (Kd.C_below HR0_1.out HB.out)|(with_reducible refine Kd.C_alloc ?_ _)|(with_reducible refine Kd.C_drewN ?_ _)|(with_reducible refine Kd.C_drew ?_)));(case side2 => exact HC0_1.out);(case side3 => repeat (first|exact (Kd.C_below HR1_1.out HB.out)|(with_reducible refine Kd.C_alloc ?_ _)|(with_reducible refine Kd.C_drewN ?_ _)|(with_reducible refine Kd.C_drew ?_)));(case side4 => exact HC1_1.out);rintro e w' ⟨rfl,⟨nd,rfl⟩⟩;refine ⟨_,rfl,?_⟩))
   go_ret
   exact ⟨zE_,by repeat (first|(with_reducible first|exact HB.out|apply za_|apply zn_|apply zd_|refine zs_ ?_ GE340.out|refine zs_ ?_ GE341.out)|exact HB.out)⟩
 ·rw [if_neg c3] at H
  have c3b0 : (a0_0.toList == a1_0.toList) = false:=beq_eq_false_iff_ne.mpr c3
  have c3b1 : (a0_0.toList != a1_0.toList) = true:=bne_iff_ne.mpr c3
  obtain rfl:=Option.some.inj H
  go_enter Try.func30,Try.ntmps30
  go_wp2_with (first|((with_reducible refine gate_dst (N:=2) rfl ?_);refine box_event ?hg (N:=2) ?hd (cs:=#[.string a0_0,.slice A0_1 l0_1.length c0_1,.slice A0_2 l0_2.length c0_2]) (t:=51) ?hr ?_;(case hd => rfl);(case hg => rfl);(case hr => first|(go_simp;done)|(go_simp;rfl));intro gb340 hg w25 hbox hb;have n0_:=zm_ (below_step zB_ hb);have n1_:=zm_ (hbox);have n2_:=zm_ ((by rw [hg];exact (below_size zB_) : w.heap.size ≤ gb340));have n3_:=zm_ ((by rw [hg];exact (below_size zB_) : w.heap.size ≤ gb340));clear HB;have HB:=n0_;have BK340:=n1_;have GW340:=n2_;have GE340:=n3_;clear n0_ n1_ n2_ n3_;clear hb hbox hg)|((with_reducible refine gate_dst (N:=3) rfl ?_);refine box_event ?hg (N:=3) ?hd (cs:=#[.string a1_0,.slice A1_1 l1_1.length c1_1,.slice A1_2 l1_2.length c1_2]) (t:=51) ?hr ?_;(case hd => rfl);(case hg => rfl);(case hr => first|(go_simp;done)|(go_simp;rfl));intro gb341 hg w26 hbox hb;have n0_:=zm_ (blk_below (g:=gb340) (o:=.cells #[.string a0_0,.slice A0_1 l0_1.length c0_1,.slice A0_2 l0_2.length c0_2] 51 (0,0)) (by (with_reducible repeat first|refine zl_ ?_ _|refine zr_ ?_|refine zk_ ?_ _);exact BK340.out) hb);have n1_:=zm_ (below_step (by repeat (first|(with_reducible first|exact HB.out|apply za_|apply zn_|apply zd_|refine zs_ ?_ GE340.out)|exact HB.out)) hb);have n2_:=zm_ (hbox);have n3_:=zm_ ((by rw [hg];exact (below_size (by repeat (first|(with_reducible first|exact HB.out|apply za_|apply zn_|apply zd_|refine zs_ ?_ GE340.out)|exact HB.out))) : w.heap.size ≤ gb341));have n4_:=zm_ ((by rw [hg];exact (below_size (by repeat (first|(with_reducible first|exact HB.out|apply za_|apply zn_|apply zd_|refine zs_ ?_ GE340.out)|exact HB.out))) : w.heap.size ≤ gb341));have n5_:=zm_ ((by rw [hg];exact Nat.ne_of_lt (blk_lt (g:=gb340) (o:=.cells #[.string a0_0,.slice A0_1 l0_1.length c0_1,.slice A0_2 l0_2.length c0_2] 51 (0,0)) (by (with_reducible repeat first|refine zl_ ?_ _|refine zr_ ?_|refine zk_ ?_ _);exact BK340.out)) : gb340 ≠ gb341));have n6_:=zm_ ((by rw [hg];exact Nat.ne_of_gt (blk_lt (g:=gb340) (o:=.cells #[.string a0_0,.slice A0_1 l0_1.length c0_1,.slice A0_2 l0_2.length c0_2] 51 (0,0)) (by (with_reducible repeat first|refine zl_ ?_ _|refine zr_ ?_|refine zk_ ?_ _);exact BK340.out)) : gb341 ≠ gb340));clear BK340;clear HB;have BK340:=n0_;have HB:=n1_;have BK341:=n2_;have GW341:=n3_;have GE341:=n4_;have NB340_341:=n5_;have NB341_340:=n6_;clear n0_ n1_ n2_ n3_ n4_ n5_ n6_;clear hb hbox hg;have hnb27:=NB340_341.out;have hnc27:=NB341_340.out;have hcz28_0 : w26.cell? ⟨gb340,0,none⟩ = some (.string a0_0):=(zc_ BK340.out 0).trans rfl;have hcz28_1 : w26.cell? ⟨gb340,1,none⟩ = some (.slice A0_1 l0_1.length c0_1):=(zc_ BK340.out 1).trans rfl;have hcz28_2 : w26.cell? ⟨gb340,2,none⟩ = some (.slice A0_2 l0_2.length c0_2):=(zc_ BK340.out 2).trans rfl;have hfz28_0:=zf_ BK340.out 0;have hfz28_1:=zf_ BK340.out 1;have hfz28_2:=zf_ BK340.out 2;have hcz29_0 : w26.cell? ⟨gb341,0,none⟩ = some (.string a1_0):=(zc_ BK341.out 0).trans rfl;have hcz29_1 : w26.cell? ⟨gb341,1,none⟩ = some (.slice A1_1 l1_1.length c1_1):=(zc_ BK341.out 1).trans rfl;have hcz29_2 : w26.cell? ⟨gb341,2,none⟩ = some (.slice A1_2 l1_2.length c1_2):=(zc_ BK341.out 2).trans rfl;have hfz29_0:=zf_ BK341.out 0;have hfz29_1:=zf_ BK341.out 1;have hfz29_2:=zf_ BK341.out 2))
  go_ret
  exact ⟨zE_,by repeat (first|(with_reducible first|exact HB.out|apply za_|apply zn_|apply zd_|refine zs_ ?_ GE340.out|refine zs_ ?_ GE341.out)|exact HB.out)⟩

def laws_eqRuleS.l0 : Nat → List (S51) → List (S51) → Int → Option (Bool)
 |0,_,_,_ => none
 |k + 1,x0,x1,x5 => if x5 < (x0.length : Int) then (if 0 ≤ x5 then (if x5 < (x1.length : Int) then ((laws_eqRule.f k ((rd_T51 x0 x5).f0) ((rd_T51 x0 x5).f1) ((rd_T51 x0 x5).f2) ((rd_T51 x1 x5).f0) ((rd_T51 x1 x5).f1) ((rd_T51 x1 x5).f2)).bind fun t346 => (if t346 = true then (laws_eqRuleS.l0 k x0 x1 (wrap64 (x5 + 1))) else (some false))) else (none)) else (none)) else (some true)
def laws_eqRuleS.f (k : Nat) (l0 : List (S51)) (l1 : List (S51)) : Option (Bool):=if (l0.length : Int) = (l1.length : Int) then (laws_eqRuleS.l0 k l0 l1 0) else (some false)
theorem laws_eqRuleS.mono_l : ∀ k,(∀ y0 y1 y2,LeO (laws_eqRuleS.l0 k y0 y1 y2) (laws_eqRuleS.l0 (k + 1) y0 y1 y2))
 |0 => fun _ _ _ r h => by simp [laws_eqRuleS.l0] at h
 |k + 1 => by
  have ih0:=laws_eqRuleS.mono_l k
  ·intro y0 y1 y2
   unfold laws_eqRuleS.l0
   repeat' first
   |(with_reducible exact ih0 _ _ _)
   |(with_reducible exact laws_eqRule.mono _ _ _ _ _ _ _)
   |(with_reducible exact LeO.refl _)
   |(with_reducible exact LeO.none _)
   |(with_reducible refine LeO.ite ?_ ?_)
   |(with_reducible refine LeO.bind ?_ (fun _ => ?_))
theorem laws_eqRuleS.mono : ∀ a0 a1 k,LeO (laws_eqRuleS.f k a0 a1) (laws_eqRuleS.f (k + 1) a0 a1):=by
 intro a0 a1 k
 have ih0:=laws_eqRuleS.mono_l k
 unfold laws_eqRuleS.f
 repeat' first
   |(with_reducible exact ih0 _ _ _)
   |(with_reducible exact laws_eqRule.mono _ _ _ _ _ _ _)
   |(with_reducible exact LeO.refl _)
   |(with_reducible exact LeO.none _)
   |(with_reducible refine LeO.ite ?_ ?_)
   |(with_reducible refine LeO.bind ?_ (fun _ => ?_))
def laws_eqRuleS.T6 : Bool × List (List Nat × List Nat):=(true,[([],[]),([],[]),([0,1],[0,1]),([2],[2]),([],[]),([],[]),([4,5],[4,5]),([6],[6]),([3,7],[3,7]),([8],[8])])
def laws_eqRuleS.B6 : List Nat:=[0,0,3,7,0,0,48,112,255,511]
theorem laws_eqRuleS.tab6 : rtab .any (opsOf Try.f20 6) = laws_eqRuleS.T6:=by kernel_rfl
theorem laws_eqRuleS.bits6 : waitsOk laws_eqRuleS.T6.2 laws_eqRuleS.B6 = true:=by kernel_rfl
set_option maxHeartbeats 8000000 in
set_option maxRecDepth 100000 in
theorem laws_eqRuleS.calls (k : Nat) (A0 : Option Addr) (c0 : Nat) (l0 : List (S51)) (A1 : Option Addr) (c1 : Nat) (l1 : List (S51)) (r : Bool) (w : World) (hr0 : Kd.C k51 w A0 l0.length l0) (hc0 : l0.length ≤ c0) (hr1 : Kd.C k51 w A1 l1.length l1) (hc1 : l1.length ≤ c1) (h : laws_eqRuleS.f k l0 l1 = some r) :
  Calls Try.prog 20 #[.slice A0 l0.length c0,.slice A1 l1.length c1] w fun e w' => e = .returned (.bool r) ∧ Below w.heap.size w w':=by
 have hu51:=Try.underlying51
 have HR0:=zm_ hr0
 have HC0:=zm_ hc0
 clear hr0 hc0
 have HR1:=zm_ hr1
 have HC1:=zm_ hc1
 clear hr1 hc1
 have HB:=zm_ (Below.refl w.heap.size w)
 have H : (if (l0.length : Int) = (l1.length : Int) then (laws_eqRuleS.l0 k l0 l1 0) else (some false)) = some r:=h
 clear h
 by_cases c3 : (l0.length : Int) = (l1.length : Int)
 ·rw [if_pos c3] at H
  have c3b0 : ((l0.length : Int) == (l1.length : Int)) = true:=beq_iff_eq.mpr c3
  have c3b1 : ((l0.length : Int) != (l1.length : Int)) = false:=bne_eq_false_iff_eq.mpr c3
  have c3b2 : (l0.length == l1.length) = true:=by first|simpa using c3|(simp at c3 ⊢;omega)
  clear c3
  have H':=zm_ H
  clear H
  go_enter Try.func20,Try.ntmps20
  go_wp2
  go_loopg [5] k (fun kq v5 w' => ∃ (x5_1 : Int),v5 = .int .i64 x5_1 ∧ Aside0 (laws_eqRuleS.l0 kq l0 l1 x5_1 = some r) ∧ Aside0 (kq ≤ k) ∧ Aside0 (Below w.heap.size w w'))
  case atStart => exact ⟨(0),zV_,H',⟨Nat.le_refl _⟩,⟨by repeat (first|(with_reducible first|exact HB.out|apply za_|apply zn_|apply zd_)|exact HB.out)⟩⟩
  case round =>
   clear H'
   try clear c1
   try clear c2
   try clear p2
   try clear c3
   try clear c3b0
   try clear c3b1
   try clear c3b2
   obtain ⟨x5_1,rfl,HA,HK1,HB⟩:=hrel
   cases gk with
   |zero => exact absurd HA.out (by simp [laws_eqRuleS.l0])
   |succ k1 =>
    have H:=HA.out
    clear HA
    simp only [laws_eqRuleS.l0] at H
    by_cases c4 : x5_1 < (l0.length : Int)
    ·rw [if_pos c4] at H
     have c4b0 : decide (x5_1 < (l0.length : Int)) = true:=decide_eq_true c4
     clear c4
     by_cases c5 : 0 ≤ x5_1
     ·rw [if_pos c5] at H
      have c5b0 : decide (0 ≤ x5_1) = true:=decide_eq_true c5
      clear c5
      by_cases c6 : x5_1 < (l1.length : Int)
      ·rw [if_pos c6] at H
       have c6b0 : decide (x5_1 < (l1.length : Int)) = true:=decide_eq_true c6
       clear c6
       replace H:=Option.bind_eq_some_iff.mp H
       obtain ⟨t346,A70,H⟩:=H
       replace H : (if t346 = true then (laws_eqRuleS.l0 k1 l0 l1 (wrap64 (x5_1 + 1))) else (some false)) = some r:=H
       have A7:=zm_ A70
       clear A70
       by_cases c8 : t346 = true
       ·subst c8
        have H1 : (laws_eqRuleS.l0 k1 l0 l1 (wrap64 (x5_1 + 1))) = some r:=by rw [if_pos rfl] at H;exact H
        clear H
        have H:=H1
        clear H1
        have H':=zm_ H
        clear H
        try go_wp2
        have n0_:=zm_ (zd_ HB.out)
        clear HB
        have HB:=n0_
        clear n0_
        have p344 : 0 ≤ (x5_1 : Int):=zo_
        have q344 : x5_1 < (l0.length : Int):=zo_
        obtain ⟨ad344,A344_1,c344_1,A344_2,c344_2,e344,hx344_0,hx344_1,hx344_2,hl344_1,hi344_1,hl344_2,hi344_2⟩:=at_T51 HR0.out x5_1 p344 q344
        have hw344_2:=hx344_2
        have hw344_1:=hx344_1
        have hw344_0:=hx344_0
        cases e344
        replace hx344_0:=(HB.out.cell (zb_ w _ hx344_0)).trans hx344_0
        replace hx344_1:=(HB.out.cell (zb_ w _ hx344_1)).trans hx344_1
        replace hx344_2:=(HB.out.cell (zb_ w _ hx344_2)).trans hx344_2
        have HR344_1:=zm_ hi344_1
        have HC344_1:=zm_ hl344_1
        clear hi344_1 hl344_1
        have HR344_2:=zm_ hi344_2
        have HC344_2:=zm_ hl344_2
        clear hi344_2 hl344_2
        replace p344:=eq_true p344
        replace q344:=eq_true q344
        have p345 : 0 ≤ (x5_1 : Int):=zo_
        have q345 : x5_1 < (l1.length : Int):=zo_
        obtain ⟨ad345,A345_1,c345_1,A345_2,c345_2,e345,hx345_0,hx345_1,hx345_2,hl345_1,hi345_1,hl345_2,hi345_2⟩:=at_T51 HR1.out x5_1 p345 q345
        have hw345_2:=hx345_2
        have hw345_1:=hx345_1
        have hw345_0:=hx345_0
        cases e345
        replace hx345_0:=(HB.out.cell (zb_ w _ hx345_0)).trans hx345_0
        replace hx345_1:=(HB.out.cell (zb_ w _ hx345_1)).trans hx345_1
        replace hx345_2:=(HB.out.cell (zb_ w _ hx345_2)).trans hx345_2
        have HR345_1:=zm_ hi345_1
        have HC345_1:=zm_ hl345_1
        clear hi345_1 hl345_1
        have HR345_2:=zm_ hi345_2
        have HC345_2:=zm_ hl345_2
        clear hi345_2 hl345_2
        replace p345:=eq_true p345
        replace q345:=eq_true q345
        refine start_ (n:=10) (S:=fun w' => w'.cell? (ad344.add ((x5_1).toNat * 3)) = some (.string ((rd_T51 l0 x5_1).f0)) ∧ w'.cell? ⟨(ad344.add ((x5_1).toNat * 3)).block,(ad344.add ((x5_1).toNat * 3)).off + 1,none⟩ = some (.slice A344_1 ((rd_T51 l0 x5_1).f1).length c344_1) ∧ w'.cell? ⟨(ad344.add ((x5_1).toNat * 3)).block,(ad344.add ((x5_1).toNat * 3)).off + 2,none⟩ = some (.slice A344_2 ((rd_T51 l0 x5_1).f2).length c344_2) ∧ w'.cell? (ad345.add ((x5_1).toNat * 3)) = some (.string ((rd_T51 l1 x5_1).f0)) ∧ w'.cell? ⟨(ad345.add ((x5_1).toNat * 3)).block,(ad345.add ((x5_1).toNat * 3)).off + 1,none⟩ = some (.slice A345_1 ((rd_T51 l1 x5_1).f1).length c345_1) ∧ w'.cell? ⟨(ad345.add ((x5_1).toNat * 3)).block,(ad345.add ((x5_1).toNat * 3)).off + 2,none⟩ = some (.slice A345_2 ((rd_T51 l1 x5_1).f2).length c345_2)) (ds:=[]) #[false,false,false,false,false,false,false,false,false,false] (by kernel_rfl) rfl rfl ⟨((HB.out.cell (zb_ w _ hw344_0)).trans hw344_0),((HB.out.cell (zb_ w _ hw344_1)).trans hw344_1),((HB.out.cell (zb_ w _ hw344_2)).trans hw344_2),((HB.out.cell (zb_ w _ hw345_0)).trans hw345_0),((HB.out.cell (zb_ w _ hw345_1)).trans hw345_1),((HB.out.cell (zb_ w _ hw345_2)).trans hw345_2)⟩ (fun hHeld => ?_);refine with_tabW laws_eqRuleS.tab6 laws_eqRuleS.bits6 (fun HT_ HW_ => ?_)
        generalize wr.drew = w9 at HB HR344_1 HR344_2 HR345_1 HR345_2 hx344_0 hx344_1 hx344_2 hx345_0 hx345_1 hx345_2 hHeld ⊢
        refine pure_ (i:=0) (N:=some 17) (v:=?_) (a':=?_) #[true,false,false,false,false,false,false,false,false,false] rfl rfl (any_of HT_.out (by kernel_rfl)) (fun _ _ _ h => h) (Or.inl ⟨by rfl,?_⟩) ?_ ?_
        rotate_left
        ·intro w'
         go_simp
         with_reducible rfl
        rotate_left
        ·simp only [Act.put,List.setIfInBounds_toArray,List.set_cons_zero,List.set_cons_succ,i64_w,i32_w,IntKind.wrap_u8]
         rfl
        refine pure_ (i:=1) (N:=some 18) (v:=?_) (a':=?_) #[true,true,false,false,false,false,false,false,false,false] rfl rfl (any_of HT_.out (by kernel_rfl)) (fun _ _ _ h => h) (Or.inl ⟨by rfl,?_⟩) ?_ ?_
        rotate_left
        ·intro w'
         go_simp
         with_reducible rfl
        rotate_left
        ·simp only [Act.put,List.setIfInBounds_toArray,List.set_cons_zero,List.set_cons_succ,i64_w,i32_w,IntKind.wrap_u8]
         rfl
        refine pure_ (i:=2) (N:=some 19) (v:=?_) (a':=?_) #[true,true,true,false,false,false,false,false,false,false] rfl rfl (any_of HT_.out (by kernel_rfl)) (fun _ _ _ h => h) (Or.inl ⟨by rfl,?_⟩) ?_ ?_
        rotate_left
        ·intro w'
         go_simp
         with_reducible rfl
        rotate_left
        ·simp only [Act.put,List.setIfInBounds_toArray,List.set_cons_zero,List.set_cons_succ,i64_w,i32_w,IntKind.wrap_u8]
         rfl
        refine pure_ (i:=4) (N:=some 21) (v:=?_) (a':=?_) #[true,true,true,false,true,false,false,false,false,false] rfl rfl (any_of HT_.out (by kernel_rfl)) (fun _ _ _ h => h) (Or.inl ⟨by rfl,?_⟩) ?_ ?_
        rotate_left
        ·intro w'
         go_simp
         with_reducible rfl
        rotate_left
        ·simp only [Act.put,List.setIfInBounds_toArray,List.set_cons_zero,List.set_cons_succ,i64_w,i32_w,IntKind.wrap_u8]
         rfl
        refine pure_ (i:=5) (N:=some 22) (v:=?_) (a':=?_) #[true,true,true,false,true,true,false,false,false,false] rfl rfl (any_of HT_.out (by kernel_rfl)) (fun _ _ _ h => h) (Or.inl ⟨by rfl,?_⟩) ?_ ?_
        rotate_left
        ·intro w'
         go_simp
         with_reducible rfl
        rotate_left
        ·simp only [Act.put,List.setIfInBounds_toArray,List.set_cons_zero,List.set_cons_succ,i64_w,i32_w,IntKind.wrap_u8]
         rfl
        refine pure_ (i:=6) (N:=some 23) (v:=?_) (a':=?_) #[true,true,true,false,true,true,true,false,false,false] rfl rfl (any_of HT_.out (by kernel_rfl)) (fun _ _ _ h => h) (Or.inl ⟨by rfl,?_⟩) ?_ ?_
        rotate_left
        ·intro w'
         go_simp
         with_reducible rfl
        rotate_left
        ·simp only [Act.put,List.setIfInBounds_toArray,List.set_cons_zero,List.set_cons_succ,i64_w,i32_w,IntKind.wrap_u8]
         rfl
        refine take_ (i:=3) (N:=some 20) (v:=?_) (a':=?_) #[true,true,true,true,true,true,true,false,false,false] rfl rfl (take_ofW HT_.out HW_.out (by kernel_rfl)) (fun _ _ _ h => h) (Or.inl ⟨by rfl,?_⟩) hHeld ?_ ?_
        rotate_left
        ·rintro w' ⟨s0,s1,s2,s3,s4,s5⟩
         go_simp
         with_reducible rfl
        rotate_left
        ·simp only [Act.put,List.setIfInBounds_toArray,List.set_cons_zero,List.set_cons_succ,i64_w,i32_w,IntKind.wrap_u8]
         rfl
        refine take_ (i:=7) (N:=some 24) (v:=?_) (a':=?_) #[true,true,true,true,true,true,true,true,false,false] rfl rfl (take_ofW HT_.out HW_.out (by kernel_rfl)) (fun _ _ _ h => h) (Or.inl ⟨by rfl,?_⟩) hHeld ?_ ?_
        rotate_left
        ·rintro w' ⟨s0,s1,s2,s3,s4,s5⟩
         go_simp
         with_reducible rfl
        rotate_left
        ·simp only [Act.put,List.setIfInBounds_toArray,List.set_cons_zero,List.set_cons_succ,i64_w,i32_w,IntKind.wrap_u8]
         rfl
        refine one_ (i:=8) (N:=some 25) #[true,true,true,true,true,true,true,true,true,false] rfl rfl (one_of HT_.out (by kernel_rfl)) (by decide) (fun K hK => ?_)
        refine goes_ Try.func30 (by kernel_rfl) rfl #[.agg #[.string ((rd_T51 l0 x5_1).f0),.slice A344_1 ((rd_T51 l0 x5_1).f1).length c344_1,.slice A344_2 ((rd_T51 l0 x5_1).f2).length c344_2],.agg #[.string ((rd_T51 l1 x5_1).f0),.slice A345_1 ((rd_T51 l1 x5_1).f1).length c345_1,.slice A345_2 ((rd_T51 l1 x5_1).f2).length c345_2]] (by rfl) rfl rfl zq_ ?_
        with_reducible refine (laws_eqRule.calls k1 ((rd_T51 l0 x5_1).f0) _ _ ((rd_T51 l0 x5_1).f1) _ _ ((rd_T51 l0 x5_1).f2) ((rd_T51 l1 x5_1).f0) _ _ ((rd_T51 l1 x5_1).f1) _ _ ((rd_T51 l1 x5_1).f2) true _ ?side1 ?side2 ?side3 ?side4 ?side5 ?side6 ?side7 ?side8 A7.out).mono ?_
        (case side1 => repeat (first|exact (Kd.C_below HR344_1.out HB.out)|(with_reducible refine Kd.C_alloc ?_ _)|(with_reducible refine Kd.C_drewN ?_ _)|(with_reducible refine Kd.C_drew ?_)))
        (case side2 => exact HC344_1.out)
        (case side3 => repeat (first|exact (Kd.C_below HR344_2.out HB.out)|(with_reducible refine Kd.C_alloc ?_ _)|(with_reducible refine Kd.C_drewN ?_ _)|(with_reducible refine Kd.C_drew ?_)))
        (case side4 => exact HC344_2.out)
        (case side5 => repeat (first|exact (Kd.C_below HR345_1.out HB.out)|(with_reducible refine Kd.C_alloc ?_ _)|(with_reducible refine Kd.C_drewN ?_ _)|(with_reducible refine Kd.C_drew ?_)))
        (case side6 => exact HC345_1.out)
        (case side7 => repeat (first|exact (Kd.C_below HR345_2.out HB.out)|(with_reducible refine Kd.C_alloc ?_ _)|(with_reducible refine Kd.C_drewN ?_ _)|(with_reducible refine Kd.C_drew ?_)))
        (case side8 => exact HC345_2.out)
        rintro e w10 ⟨rfl,hb⟩
        refine ⟨_,rfl,?_⟩
        have n0_:=zm_ (below_step zB_ hb)
        clear HB
        have HB:=n0_
        clear n0_
        (try clear hb)
        (try clear hb2)
        (try clear hk)
        (try clear hi)
        refine hK.out _ _ ⟨((HB.out.cell (zb_ w _ hw344_0)).trans hw344_0),((HB.out.cell (zb_ w _ hw344_1)).trans hw344_1),((HB.out.cell (zb_ w _ hw344_2)).trans hw344_2),((HB.out.cell (zb_ w _ hw345_0)).trans hw345_0),((HB.out.cell (zb_ w _ hw345_1)).trans hw345_1),((HB.out.cell (zb_ w _ hw345_2)).trans hw345_2)⟩ (fun hHeld => ?_)
        clear hK K
        refine norm_ (a':=?_) ?_ ?_
        rotate_left
        ·show Act.put _ (some 25) _ = _
         simp only [Act.put,List.setIfInBounds_toArray,List.set_cons_zero,List.set_cons_succ,i64_w,i32_w,IntKind.wrap_u8]
         rfl
        refine pure_ (i:=9) (N:=some 26) (v:=?_) (a':=?_) #[true,true,true,true,true,true,true,true,true,true] rfl rfl (any_of HT_.out (by kernel_rfl)) (fun _ _ _ h => h) (Or.inl ⟨by rfl,?_⟩) ?_ ?_
        rotate_left
        ·intro w'
         go_simp
         with_reducible rfl
        rotate_left
        ·simp only [Act.put,List.setIfInBounds_toArray,List.set_cons_zero,List.set_cons_succ,i64_w,i32_w,IntKind.wrap_u8]
         rfl
        refine done_ (done_of HT_.out (by kernel_rfl)) ?_
        try go_wp2
        go_roundg k1
        case measure => have:=HK1.out;omega
        case rel => exact ⟨(wrap64 (x5_1 + 1)),zV_,H',⟨by have:=HK1.out;omega⟩,⟨by repeat (first|(with_reducible first|exact HB.out|apply za_|apply zn_|apply zd_)|exact HB.out)⟩⟩
       ·replace c8:=Bool.eq_false_iff.mpr c8
        subst c8
        have H1 : (some false) = some r:=by rw [if_neg (show ¬ (false = true) by decide)] at H;exact H
        clear H
        have H:=H1
        clear H1
        obtain rfl:=Option.some.inj H
        try go_wp2
        have n0_:=zm_ (zd_ HB.out)
        clear HB
        have HB:=n0_
        clear n0_
        have p344 : 0 ≤ (x5_1 : Int):=zo_
        have q344 : x5_1 < (l0.length : Int):=zo_
        obtain ⟨ad344,A344_1,c344_1,A344_2,c344_2,e344,hx344_0,hx344_1,hx344_2,hl344_1,hi344_1,hl344_2,hi344_2⟩:=at_T51 HR0.out x5_1 p344 q344
        have hw344_2:=hx344_2
        have hw344_1:=hx344_1
        have hw344_0:=hx344_0
        cases e344
        replace hx344_0:=(HB.out.cell (zb_ w _ hx344_0)).trans hx344_0
        replace hx344_1:=(HB.out.cell (zb_ w _ hx344_1)).trans hx344_1
        replace hx344_2:=(HB.out.cell (zb_ w _ hx344_2)).trans hx344_2
        have HR344_1:=zm_ hi344_1
        have HC344_1:=zm_ hl344_1
        clear hi344_1 hl344_1
        have HR344_2:=zm_ hi344_2
        have HC344_2:=zm_ hl344_2
        clear hi344_2 hl344_2
        replace p344:=eq_true p344
        replace q344:=eq_true q344
        have p345 : 0 ≤ (x5_1 : Int):=zo_
        have q345 : x5_1 < (l1.length : Int):=zo_
        obtain ⟨ad345,A345_1,c345_1,A345_2,c345_2,e345,hx345_0,hx345_1,hx345_2,hl345_1,hi345_1,hl345_2,hi345_2⟩:=at_T51 HR1.out x5_1 p345 q345
        have hw345_2:=hx345_2
        have hw345_1:=hx345_1
        have hw345_0:=hx345_0
        cases e345
        replace hx345_0:=(HB.out.cell (zb_ w _ hx345_0)).trans hx345_0
        replace hx345_1:=(HB.out.cell (zb_ w _ hx345_1)).trans hx345_1
        replace hx345_2:=(HB.out.cell (zb_ w _ hx345_2)).trans hx345_2
        have HR345_1:=zm_ hi345_1
        have HC345_1:=zm_ hl345_1
        clear hi345_1 hl345_1
        have HR345_2:=zm_ hi345_2
        have HC345_2:=zm_ hl345_2
        clear hi345_2 hl345_2
        replace p345:=eq_true p345
        replace q345:=eq_true q345
        refine start_ (n:=10) (S:=fun w' => w'.cell? (ad344.add ((x5_1).toNat * 3)) = some (.string ((rd_T51 l0 x5_1).f0)) ∧ w'.cell? ⟨(ad344.add ((x5_1).toNat * 3)).block,(ad344.add ((x5_1).toNat * 3)).off + 1,none⟩ = some (.slice A344_1 ((rd_T51 l0 x5_1).f1).length c344_1) ∧ w'.cell? ⟨(ad344.add ((x5_1).toNat * 3)).block,(ad344.add ((x5_1).toNat * 3)).off + 2,none⟩ = some (.slice A344_2 ((rd_T51 l0 x5_1).f2).length c344_2) ∧ w'.cell? (ad345.add ((x5_1).toNat * 3)) = some (.string ((rd_T51 l1 x5_1).f0)) ∧ w'.cell? ⟨(ad345.add ((x5_1).toNat * 3)).block,(ad345.add ((x5_1).toNat * 3)).off + 1,none⟩ = some (.slice A345_1 ((rd_T51 l1 x5_1).f1).length c345_1) ∧ w'.cell? ⟨(ad345.add ((x5_1).toNat * 3)).block,(ad345.add ((x5_1).toNat * 3)).off + 2,none⟩ = some (.slice A345_2 ((rd_T51 l1 x5_1).f2).length c345_2)) (ds:=[]) #[false,false,false,false,false,false,false,false,false,false] (by kernel_rfl) rfl rfl ⟨((HB.out.cell (zb_ w _ hw344_0)).trans hw344_0),((HB.out.cell (zb_ w _ hw344_1)).trans hw344_1),((HB.out.cell (zb_ w _ hw344_2)).trans hw344_2),((HB.out.cell (zb_ w _ hw345_0)).trans hw345_0),((HB.out.cell (zb_ w _ hw345_1)).trans hw345_1),((HB.out.cell (zb_ w _ hw345_2)).trans hw345_2)⟩ (fun hHeld => ?_);refine with_tabW laws_eqRuleS.tab6 laws_eqRuleS.bits6 (fun HT_ HW_ => ?_)
        generalize wr.drew = w11 at HB HR344_1 HR344_2 HR345_1 HR345_2 hx344_0 hx344_1 hx344_2 hx345_0 hx345_1 hx345_2 hHeld ⊢
        refine pure_ (i:=0) (N:=some 17) (v:=?_) (a':=?_) #[true,false,false,false,false,false,false,false,false,false] rfl rfl (any_of HT_.out (by kernel_rfl)) (fun _ _ _ h => h) (Or.inl ⟨by rfl,?_⟩) ?_ ?_
        rotate_left
        ·intro w'
         go_simp
         with_reducible rfl
        rotate_left
        ·simp only [Act.put,List.setIfInBounds_toArray,List.set_cons_zero,List.set_cons_succ,i64_w,i32_w,IntKind.wrap_u8]
         rfl
        refine pure_ (i:=1) (N:=some 18) (v:=?_) (a':=?_) #[true,true,false,false,false,false,false,false,false,false] rfl rfl (any_of HT_.out (by kernel_rfl)) (fun _ _ _ h => h) (Or.inl ⟨by rfl,?_⟩) ?_ ?_
        rotate_left
        ·intro w'
         go_simp
         with_reducible rfl
        rotate_left
        ·simp only [Act.put,List.setIfInBounds_toArray,List.set_cons_zero,List.set_cons_succ,i64_w,i32_w,IntKind.wrap_u8]
         rfl
        refine pure_ (i:=2) (N:=some 19) (v:=?_) (a':=?_) #[true,true,true,false,false,false,false,false,false,false] rfl rfl (any_of HT_.out (by kernel_rfl)) (fun _ _ _ h => h) (Or.inl ⟨by rfl,?_⟩) ?_ ?_
        rotate_left
        ·intro w'
         go_simp
         with_reducible rfl
        rotate_left
        ·simp only [Act.put,List.setIfInBounds_toArray,List.set_cons_zero,List.set_cons_succ,i64_w,i32_w,IntKind.wrap_u8]
         rfl
        refine pure_ (i:=4) (N:=some 21) (v:=?_) (a':=?_) #[true,true,true,false,true,false,false,false,false,false] rfl rfl (any_of HT_.out (by kernel_rfl)) (fun _ _ _ h => h) (Or.inl ⟨by rfl,?_⟩) ?_ ?_
        rotate_left
        ·intro w'
         go_simp
         with_reducible rfl
        rotate_left
        ·simp only [Act.put,List.setIfInBounds_toArray,List.set_cons_zero,List.set_cons_succ,i64_w,i32_w,IntKind.wrap_u8]
         rfl
        refine pure_ (i:=5) (N:=some 22) (v:=?_) (a':=?_) #[true,true,true,false,true,true,false,false,false,false] rfl rfl (any_of HT_.out (by kernel_rfl)) (fun _ _ _ h => h) (Or.inl ⟨by rfl,?_⟩) ?_ ?_
        rotate_left
        ·intro w'
         go_simp
         with_reducible rfl
        rotate_left
        ·simp only [Act.put,List.setIfInBounds_toArray,List.set_cons_zero,List.set_cons_succ,i64_w,i32_w,IntKind.wrap_u8]
         rfl
        refine pure_ (i:=6) (N:=some 23) (v:=?_) (a':=?_) #[true,true,true,false,true,true,true,false,false,false] rfl rfl (any_of HT_.out (by kernel_rfl)) (fun _ _ _ h => h) (Or.inl ⟨by rfl,?_⟩) ?_ ?_
        rotate_left
        ·intro w'
         go_simp
         with_reducible rfl
        rotate_left
        ·simp only [Act.put,List.setIfInBounds_toArray,List.set_cons_zero,List.set_cons_succ,i64_w,i32_w,IntKind.wrap_u8]
         rfl
        refine take_ (i:=3) (N:=some 20) (v:=?_) (a':=?_) #[true,true,true,true,true,true,true,false,false,false] rfl rfl (take_ofW HT_.out HW_.out (by kernel_rfl)) (fun _ _ _ h => h) (Or.inl ⟨by rfl,?_⟩) hHeld ?_ ?_
        rotate_left
        ·rintro w' ⟨s0,s1,s2,s3,s4,s5⟩
         go_simp
         with_reducible rfl
        rotate_left
        ·simp only [Act.put,List.setIfInBounds_toArray,List.set_cons_zero,List.set_cons_succ,i64_w,i32_w,IntKind.wrap_u8]
         rfl
        refine take_ (i:=7) (N:=some 24) (v:=?_) (a':=?_) #[true,true,true,true,true,true,true,true,false,false] rfl rfl (take_ofW HT_.out HW_.out (by kernel_rfl)) (fun _ _ _ h => h) (Or.inl ⟨by rfl,?_⟩) hHeld ?_ ?_
        rotate_left
        ·rintro w' ⟨s0,s1,s2,s3,s4,s5⟩
         go_simp
         with_reducible rfl
        rotate_left
        ·simp only [Act.put,List.setIfInBounds_toArray,List.set_cons_zero,List.set_cons_succ,i64_w,i32_w,IntKind.wrap_u8]
         rfl
        refine one_ (i:=8) (N:=some 25) #[true,true,true,true,true,true,true,true,true,false] rfl rfl (one_of HT_.out (by kernel_rfl)) (by decide) (fun K hK => ?_)
        refine goes_ Try.func30 (by kernel_rfl) rfl #[.agg #[.string ((rd_T51 l0 x5_1).f0),.slice A344_1 ((rd_T51 l0 x5_1).f1).length c344_1,.slice A344_2 ((rd_T51 l0 x5_1).f2).length c344_2],.agg #[.string ((rd_T51 l1 x5_1).f0),.slice A345_1 ((rd_T51 l1 x5_1).f1).length c345_1,.slice A345_2 ((rd_T51 l1 x5_1).f2).length c345_2]] (by rfl) rfl rfl zq_ ?_
        with_reducible refine (laws_eqRule.calls k1 ((rd_T51 l0 x5_1).f0) _ _ ((rd_T51 l0 x5_1).f1) _ _ ((rd_T51 l0 x5_1).f2) ((rd_T51 l1 x5_1).f0) _ _ ((rd_T51 l1 x5_1).f1) _ _ ((rd_T51 l1 x5_1).f2) false _ ?side1 ?side2 ?side3 ?side4 ?side5 ?side6 ?side7 ?side8 A7.out).mono ?_
        (case side1 => repeat (first|exact (Kd.C_below HR344_1.out HB.out)|(with_reducible refine Kd.C_alloc ?_ _)|(with_reducible refine Kd.C_drewN ?_ _)|(with_reducible refine Kd.C_drew ?_)))
        (case side2 => exact HC344_1.out)
        (case side3 => repeat (first|exact (Kd.C_below HR344_2.out HB.out)|(with_reducible refine Kd.C_alloc ?_ _)|(with_reducible refine Kd.C_drewN ?_ _)|(with_reducible refine Kd.C_drew ?_)))
        (case side4 => exact HC344_2.out)
        (case side5 => repeat (first|exact (Kd.C_below HR345_1.out HB.out)|(with_reducible refine Kd.C_alloc ?_ _)|(with_reducible refine Kd.C_drewN ?_ _)|(with_reducible refine Kd.C_drew ?_)))
        (case side6 => exact HC345_1.out)
        (case side7 => repeat (first|exact (Kd.C_below HR345_2.out HB.out)|(with_reducible refine Kd.C_alloc ?_ _)|(with_reducible refine Kd.C_drewN ?_ _)|(with_reducible refine Kd.C_drew ?_)))
        (case side8 => exact HC345_2.out)
        rintro e w12 ⟨rfl,hb⟩
        refine ⟨_,rfl,?_⟩
        have n0_:=zm_ (below_step zB_ hb)
        clear HB
        have HB:=n0_
        clear n0_
        (try clear hb)
        (try clear hb2)
        (try clear hk)
        (try clear hi)
        refine hK.out _ _ ⟨((HB.out.cell (zb_ w _ hw344_0)).trans hw344_0),((HB.out.cell (zb_ w _ hw344_1)).trans hw344_1),((HB.out.cell (zb_ w _ hw344_2)).trans hw344_2),((HB.out.cell (zb_ w _ hw345_0)).trans hw345_0),((HB.out.cell (zb_ w _ hw345_1)).trans hw345_1),((HB.out.cell (zb_ w _ hw345_2)).trans hw345_2)⟩ (fun hHeld => ?_)
        clear hK K
        refine norm_ (a':=?_) ?_ ?_
        rotate_left
        ·show Act.put _ (some 25) _ = _
         simp only [Act.put,List.setIfInBounds_toArray,List.set_cons_zero,List.set_cons_succ,i64_w,i32_w,IntKind.wrap_u8]
         rfl
        refine pure_ (i:=9) (N:=some 26) (v:=?_) (a':=?_) #[true,true,true,true,true,true,true,true,true,true] rfl rfl (any_of HT_.out (by kernel_rfl)) (fun _ _ _ h => h) (Or.inl ⟨by rfl,?_⟩) ?_ ?_
        rotate_left
        ·intro w'
         go_simp
         with_reducible rfl
        rotate_left
        ·simp only [Act.put,List.setIfInBounds_toArray,List.set_cons_zero,List.set_cons_succ,i64_w,i32_w,IntKind.wrap_u8]
         rfl
        refine done_ (done_of HT_.out (by kernel_rfl)) ?_
        try go_wp2
        go_ret
        exact ⟨zE_,by repeat (first|(with_reducible first|exact HB.out|apply za_|apply zn_|apply zd_)|exact HB.out)⟩
      ·rw [if_neg c6] at H
       exact absurd H (by simp)
     ·rw [if_neg c5] at H
      exact absurd H (by simp)
    ·rw [if_neg c4] at H
     have c4b0 : decide (x5_1 < (l0.length : Int)) = false:=decide_eq_false c4
     clear c4
     obtain rfl:=Option.some.inj H
     go_wp2
     go_ret
     exact ⟨zE_,by repeat (first|(with_reducible first|exact HB.out|apply za_|apply zn_|apply zd_)|exact HB.out)⟩
 ·rw [if_neg c3] at H
  have c3b0 : ((l0.length : Int) == (l1.length : Int)) = false:=beq_eq_false_iff_ne.mpr c3
  have c3b1 : ((l0.length : Int) != (l1.length : Int)) = true:=bne_iff_ne.mpr c3
  have c3b2 : (l0.length == l1.length) = false:=by first|simpa using c3|(simp at c3 ⊢;omega)
  obtain rfl:=Option.some.inj H
  go_enter Try.func20,Try.ntmps20
  go_wp2
  go_ret
  exact ⟨zE_,by repeat (first|(with_reducible first|exact HB.out|apply za_|apply zn_|apply zd_)|exact HB.out)⟩

def laws_eqGrammar.f (k : Nat) (l0_0 : List (S51)) (l1_0 : List (S51)) : Option (Bool):=(laws_eqRuleS.f k l0_0 l1_0).bind fun t349 => (if t349 = true then (some true) else (some false))
theorem laws_eqGrammar.mono : ∀ a0 a1 k,LeO (laws_eqGrammar.f k a0 a1) (laws_eqGrammar.f (k + 1) a0 a1):=by
 intro a0 a1 k
 unfold laws_eqGrammar.f
 repeat' first
   |(with_reducible exact laws_eqRuleS.mono _ _ _)
   |(with_reducible exact LeO.refl _)
   |(with_reducible exact LeO.none _)
   |(with_reducible refine LeO.ite ?_ ?_)
   |(with_reducible refine LeO.bind ?_ (fun _ => ?_))
set_option maxHeartbeats 8000000 in
set_option maxRecDepth 100000 in
theorem laws_eqGrammar.calls (k : Nat) (A0_0 : Option Addr) (c0_0 : Nat) (l0_0 : List (S51)) (A1_0 : Option Addr) (c1_0 : Nat) (l1_0 : List (S51)) (r : Bool) (w : World) (hr0_0 : Kd.C k51 w A0_0 l0_0.length l0_0) (hc0_0 : l0_0.length ≤ c0_0) (hr1_0 : Kd.C k51 w A1_0 l1_0.length l1_0) (hc1_0 : l1_0.length ≤ c1_0) (h : laws_eqGrammar.f k l0_0 l1_0 = some r) :
  Calls Try.prog 10 #[.agg #[.slice A0_0 l0_0.length c0_0],.agg #[.slice A1_0 l1_0.length c1_0]] w fun e w' => e = .returned (.bool r) ∧ Below w.heap.size w w':=by
 have hu33:=Try.underlying33
 have HR0_0:=zm_ hr0_0
 have HC0_0:=zm_ hc0_0
 clear hr0_0 hc0_0
 have HR1_0:=zm_ hr1_0
 have HC1_0:=zm_ hc1_0
 clear hr1_0 hc1_0
 have HB:=zm_ (Below.refl w.heap.size w)
 have H : ((laws_eqRuleS.f k l0_0 l1_0).bind fun t349 => (if t349 = true then (some true) else (some false))) = some r:=h
 clear h
 replace H:=Option.bind_eq_some_iff.mp H
 obtain ⟨t349,A30,H⟩:=H
 replace H : (if t349 = true then (some true) else (some false)) = some r:=H
 have A3:=zm_ A30
 clear A30
 by_cases c4 : t349 = true
 ·subst c4
  have H1 : (some true) = some r:=by rw [if_pos rfl] at H;exact H
  clear H
  have H:=H1
  clear H1
  obtain rfl:=Option.some.inj H
  go_enter Try.func10,Try.ntmps10
  go_wp2_with (first|((with_reducible refine gate_dst (N:=2) rfl ?_);refine box_event ?hg (N:=2) ?hd (cs:=#[.slice A0_0 l0_0.length c0_0]) (t:=33) ?hr ?_;(case hd => rfl);(case hg => rfl);(case hr => first|(go_simp;done)|(go_simp;rfl));intro gb347 hg w5 hbox hb;have n0_:=zm_ (below_step zB_ hb);have n1_:=zm_ (hbox);have n2_:=zm_ ((by rw [hg];exact (below_size zB_) : w.heap.size ≤ gb347));have n3_:=zm_ ((by rw [hg];exact (below_size zB_) : w.heap.size ≤ gb347));clear HB;have HB:=n0_;have BK347:=n1_;have GW347:=n2_;have GE347:=n3_;clear n0_ n1_ n2_ n3_;clear hb hbox hg)|((with_reducible refine gate_dst (N:=3) rfl ?_);refine box_event ?hg (N:=3) ?hd (cs:=#[.slice A1_0 l1_0.length c1_0]) (t:=33) ?hr ?_;(case hd => rfl);(case hg => rfl);(case hr => first|(go_simp;done)|(go_simp;rfl));intro gb348 hg w6 hbox hb;have n0_:=zm_ (blk_below (g:=gb347) (o:=.cells #[.slice A0_0 l0_0.length c0_0] 33 (0,0)) (by (with_reducible repeat first|refine zl_ ?_ _|refine zr_ ?_|refine zk_ ?_ _);exact BK347.out) hb);have n1_:=zm_ (below_step (by repeat (first|(with_reducible first|exact HB.out|apply za_|apply zn_|apply zd_|refine zs_ ?_ GE347.out)|exact HB.out)) hb);have n2_:=zm_ (hbox);have n3_:=zm_ ((by rw [hg];exact (below_size (by repeat (first|(with_reducible first|exact HB.out|apply za_|apply zn_|apply zd_|refine zs_ ?_ GE347.out)|exact HB.out))) : w.heap.size ≤ gb348));have n4_:=zm_ ((by rw [hg];exact (below_size (by repeat (first|(with_reducible first|exact HB.out|apply za_|apply zn_|apply zd_|refine zs_ ?_ GE347.out)|exact HB.out))) : w.heap.size ≤ gb348));have n5_:=zm_ ((by rw [hg];exact Nat.ne_of_lt (blk_lt (g:=gb347) (o:=.cells #[.slice A0_0 l0_0.length c0_0] 33 (0,0)) (by (with_reducible repeat first|refine zl_ ?_ _|refine zr_ ?_|refine zk_ ?_ _);exact BK347.out)) : gb347 ≠ gb348));have n6_:=zm_ ((by rw [hg];exact Nat.ne_of_gt (blk_lt (g:=gb347) (o:=.cells #[.slice A0_0 l0_0.length c0_0] 33 (0,0)) (by (with_reducible repeat first|refine zl_ ?_ _|refine zr_ ?_|refine zk_ ?_ _);exact BK347.out)) : gb348 ≠ gb347));clear BK347;clear HB;have BK347:=n0_;have HB:=n1_;have BK348:=n2_;have GW348:=n3_;have GE348:=n4_;have NB347_348:=n5_;have NB348_347:=n6_;clear n0_ n1_ n2_ n3_ n4_ n5_ n6_;clear hb hbox hg;have hnb7:=NB347_348.out;have hnc7:=NB348_347.out;have hcz8_0 : w6.cell? ⟨gb347,0,none⟩ = some (.slice A0_0 l0_0.length c0_0):=(zc_ BK347.out 0).trans rfl;have hfz8_0:=zf_ BK347.out 0;have hcz9_0 : w6.cell? ⟨gb348,0,none⟩ = some (.slice A1_0 l1_0.length c1_0):=(zc_ BK348.out 0).trans rfl;have hfz9_0:=zf_ BK348.out 0)|((with_reducible refine gate_callee (f:=20) rfl ?_);refine goesL_ (some 9) rfl rfl Try.func20 (by kernel_rfl) rfl #[.slice A0_0 l0_0.length c0_0,.slice A1_0 l1_0.length c1_0] rfl zq_ ?_;(with_reducible refine (laws_eqRuleS.calls k _ _ l0_0 _ _ l1_0 true _ ?side1 ?side2 ?side3 ?side4 A3.out).mono ?_);(case side1 => repeat (first|exact (Kd.C_below HR0_0.out HB.out)|(with_reducible refine Kd.C_alloc ?_ _)|(with_reducible refine Kd.C_drewN ?_ _)|(with_reducible refine Kd.C_drew ?_)));(case side2 => exact HC0_0.out);(case side3 => repeat (first|exact (Kd.C_below HR1_0.out HB.out)|(with_reducible refine Kd.C_alloc ?_ _)|(with_reducible refine Kd.C_drewN ?_ _)|(with_reducible refine Kd.C_drew ?_)));(case side4 => exact HC1_0.out);rintro e w10 ⟨rfl,hb⟩;refine ⟨_,rfl,?_⟩;have n0_:=zm_ (blk_below (g:=gb347) (o:=.cells #[.slice A0_0 l0_0.length c0_0] 33 (0,0)) (by (with_reducible repeat first|refine zl_ ?_ _|refine zr_ ?_|refine zk_ ?_ _);exact BK347.out) hb);have n1_:=zm_ (blk_below (g:=gb348) (o:=.cells #[.slice A1_0 l1_0.length c1_0] 33 (0,0)) (by (with_reducible repeat first|refine zl_ ?_ _|refine zr_ ?_|refine zk_ ?_ _);exact BK348.out) hb);have n2_:=zm_ (below_step (by repeat (first|(with_reducible first|exact HB.out|apply za_|apply zn_|apply zd_|refine zs_ ?_ GE347.out|refine zs_ ?_ GE348.out)|exact HB.out)) hb);clear BK347;clear BK348;clear HB;have BK347:=n0_;have BK348:=n1_;have HB:=n2_;clear n0_ n1_ n2_;(try clear hb)))
  go_ret
  exact ⟨zE_,by repeat (first|(with_reducible first|exact HB.out|apply za_|apply zn_|apply zd_|refine zs_ ?_ GE347.out|refine zs_ ?_ GE348.out)|exact HB.out)⟩
 ·replace c4:=Bool.eq_false_iff.mpr c4
  subst c4
  have H1 : (some false) = some r:=by rw [if_neg (show ¬ (false = true) by decide)] at H;exact H
  clear H
  have H:=H1
  clear H1
  obtain rfl:=Option.some.inj H
  go_enter Try.func10,Try.ntmps10
  go_wp2_with (first|((with_reducible refine gate_dst (N:=2) rfl ?_);refine box_event ?hg (N:=2) ?hd (cs:=#[.slice A0_0 l0_0.length c0_0]) (t:=33) ?hr ?_;(case hd => rfl);(case hg => rfl);(case hr => first|(go_simp;done)|(go_simp;rfl));intro gb347 hg w11 hbox hb;have n0_:=zm_ (below_step zB_ hb);have n1_:=zm_ (hbox);have n2_:=zm_ ((by rw [hg];exact (below_size zB_) : w.heap.size ≤ gb347));have n3_:=zm_ ((by rw [hg];exact (below_size zB_) : w.heap.size ≤ gb347));clear HB;have HB:=n0_;have BK347:=n1_;have GW347:=n2_;have GE347:=n3_;clear n0_ n1_ n2_ n3_;clear hb hbox hg)|((with_reducible refine gate_dst (N:=3) rfl ?_);refine box_event ?hg (N:=3) ?hd (cs:=#[.slice A1_0 l1_0.length c1_0]) (t:=33) ?hr ?_;(case hd => rfl);(case hg => rfl);(case hr => first|(go_simp;done)|(go_simp;rfl));intro gb348 hg w12 hbox hb;have n0_:=zm_ (blk_below (g:=gb347) (o:=.cells #[.slice A0_0 l0_0.length c0_0] 33 (0,0)) (by (with_reducible repeat first|refine zl_ ?_ _|refine zr_ ?_|refine zk_ ?_ _);exact BK347.out) hb);have n1_:=zm_ (below_step (by repeat (first|(with_reducible first|exact HB.out|apply za_|apply zn_|apply zd_|refine zs_ ?_ GE347.out)|exact HB.out)) hb);have n2_:=zm_ (hbox);have n3_:=zm_ ((by rw [hg];exact (below_size (by repeat (first|(with_reducible first|exact HB.out|apply za_|apply zn_|apply zd_|refine zs_ ?_ GE347.out)|exact HB.out))) : w.heap.size ≤ gb348));have n4_:=zm_ ((by rw [hg];exact (below_size (by repeat (first|(with_reducible first|exact HB.out|apply za_|apply zn_|apply zd_|refine zs_ ?_ GE347.out)|exact HB.out))) : w.heap.size ≤ gb348));have n5_:=zm_ ((by rw [hg];exact Nat.ne_of_lt (blk_lt (g:=gb347) (o:=.cells #[.slice A0_0 l0_0.length c0_0] 33 (0,0)) (by (with_reducible repeat first|refine zl_ ?_ _|refine zr_ ?_|refine zk_ ?_ _);exact BK347.out)) : gb347 ≠ gb348));have n6_:=zm_ ((by rw [hg];exact Nat.ne_of_gt (blk_lt (g:=gb347) (o:=.cells #[.slice A0_0 l0_0.length c0_0] 33 (0,0)) (by (with_reducible repeat first|refine zl_ ?_ _|refine zr_ ?_|refine zk_ ?_ _);exact BK347.out)) : gb348 ≠ gb347));clear BK347;clear HB;have BK347:=n0_;have HB:=n1_;have BK348:=n2_;have GW348:=n3_;have GE348:=n4_;have NB347_348:=n5_;have NB348_347:=n6_;clear n0_ n1_ n2_ n3_ n4_ n5_ n6_;clear hb hbox hg;have hnb13:=NB347_348.out;have hnc13:=NB348_347.out;have hcz14_0 : w12.cell? ⟨gb347,0,none⟩ = some (.slice A0_0 l0_0.length c0_0):=(zc_ BK347.out 0).trans rfl;have hfz14_0:=zf_ BK347.out 0;have hcz15_0 : w12.cell? ⟨gb348,0,none⟩ = some (.slice A1_0 l1_0.length c1_0):=(zc_ BK348.out 0).trans rfl;have hfz15_0:=zf_ BK348.out 0)|((with_reducible refine gate_callee (f:=20) rfl ?_);refine goesL_ (some 9) rfl rfl Try.func20 (by kernel_rfl) rfl #[.slice A0_0 l0_0.length c0_0,.slice A1_0 l1_0.length c1_0] rfl zq_ ?_;(with_reducible refine (laws_eqRuleS.calls k _ _ l0_0 _ _ l1_0 false _ ?side1 ?side2 ?side3 ?side4 A3.out).mono ?_);(case side1 => repeat (first|exact (Kd.C_below HR0_0.out HB.out)|(with_reducible refine Kd.C_alloc ?_ _)|(with_reducible refine Kd.C_drewN ?_ _)|(with_reducible refine Kd.C_drew ?_)));(case side2 => exact HC0_0.out);(case side3 => repeat (first|exact (Kd.C_below HR1_0.out HB.out)|(with_reducible refine Kd.C_alloc ?_ _)|(with_reducible refine Kd.C_drewN ?_ _)|(with_reducible refine Kd.C_drew ?_)));(case side4 => exact HC1_0.out);rintro e w16 ⟨rfl,hb⟩;refine ⟨_,rfl,?_⟩;have n0_:=zm_ (blk_below (g:=gb347) (o:=.cells #[.slice A0_0 l0_0.length c0_0] 33 (0,0)) (by (with_reducible repeat first|refine zl_ ?_ _|refine zr_ ?_|refine zk_ ?_ _);exact BK347.out) hb);have n1_:=zm_ (blk_below (g:=gb348) (o:=.cells #[.slice A1_0 l1_0.length c1_0] 33 (0,0)) (by (with_reducible repeat first|refine zl_ ?_ _|refine zr_ ?_|refine zk_ ?_ _);exact BK348.out) hb);have n2_:=zm_ (below_step (by repeat (first|(with_reducible first|exact HB.out|apply za_|apply zn_|apply zd_|refine zs_ ?_ GE347.out|refine zs_ ?_ GE348.out)|exact HB.out)) hb);clear BK347;clear BK348;clear HB;have BK347:=n0_;have BK348:=n1_;have HB:=n2_;clear n0_ n1_ n2_;(try clear hb)))
  go_ret
  exact ⟨zE_,by repeat (first|(with_reducible first|exact HB.out|apply za_|apply zn_|apply zd_|refine zs_ ?_ GE347.out|refine zs_ ?_ GE348.out)|exact HB.out)⟩

def laws_eqTreeNode.f (k : Nat) (a0_0 : Int) (a0_1 : Int) (l0_2 : List Int) (a0_3 : Int) (a0_4 : Int) (l0_5 : List Int) (a1_0 : Int) (a1_1 : Int) (l1_2 : List Int) (a1_3 : Int) (a1_4 : Int) (l1_5 : List Int) : Option (Bool):=if a0_0 = a1_0 then (if a0_1 = a1_1 then ((laws_eqIntS.f k l0_2 l1_2).bind fun t352 => (if t352 = true then (if a0_3 = a1_3 then (if a0_4 = a1_4 then ((laws_eqIntS.f k l0_5 l1_5).bind fun t353 => (if t353 = true then (some true) else (some false))) else (some false)) else (some false)) else (some false))) else (some false)) else (some false)
theorem laws_eqTreeNode.mono : ∀ a0 a1 a2 a3 a4 a5 a6 a7 a8 a9 a10 a11 k,LeO (laws_eqTreeNode.f k a0 a1 a2 a3 a4 a5 a6 a7 a8 a9 a10 a11) (laws_eqTreeNode.f (k + 1) a0 a1 a2 a3 a4 a5 a6 a7 a8 a9 a10 a11):=by
 intro a0 a1 a2 a3 a4 a5 a6 a7 a8 a9 a10 a11 k
 unfold laws_eqTreeNode.f
 repeat' first
   |(with_reducible exact laws_eqIntS.mono _ _ _)
   |(with_reducible exact LeO.refl _)
   |(with_reducible exact LeO.none _)
   |(with_reducible refine LeO.ite ?_ ?_)
   |(with_reducible refine LeO.bind ?_ (fun _ => ?_))
set_option maxHeartbeats 8000000 in
set_option maxRecDepth 100000 in
theorem laws_eqTreeNode.calls (k : Nat) (a0_0 : Int) (a0_1 : Int) (A0_2 : Option Addr) (c0_2 : Nat) (l0_2 : List Int) (a0_3 : Int) (a0_4 : Int) (A0_5 : Option Addr) (c0_5 : Nat) (l0_5 : List Int) (a1_0 : Int) (a1_1 : Int) (A1_2 : Option Addr) (c1_2 : Nat) (l1_2 : List Int) (a1_3 : Int) (a1_4 : Int) (A1_5 : Option Addr) (c1_5 : Nat) (l1_5 : List Int) (r : Bool) (w : World) (hr0_2 : Kd.C (Kd.int .i64) w A0_2 l0_2.length l0_2) (hc0_2 : l0_2.length ≤ c0_2) (hr0_5 : Kd.C (Kd.int .i64) w A0_5 l0_5.length l0_5) (hc0_5 : l0_5.length ≤ c0_5) (hr1_2 : Kd.C (Kd.int .i64) w A1_2 l1_2.length l1_2) (hc1_2 : l1_2.length ≤ c1_2) (hr1_5 : Kd.C (Kd.int .i64) w A1_5 l1_5.length l1_5) (hc1_5 : l1_5.length ≤ c1_5) (h : laws_eqTreeNode.f k a0_0 a0_1 l0_2 a0_3 a0_4 l0_5 a1_0 a1_1 l1_2 a1_3 a1_4 l1_5 = some r) :
  Calls Try.prog 31 #[.agg #[.int .i64 a0_0,.int .i64 a0_1,.slice A0_2 l0_2.length c0_2,.int .i64 a0_3,.int .i64 a0_4,.slice A0_5 l0_5.length c0_5],.agg #[.int .i64 a1_0,.int .i64 a1_1,.slice A1_2 l1_2.length c1_2,.int .i64 a1_3,.int .i64 a1_4,.slice A1_5 l1_5.length c1_5]] w fun e w' => e = .returned (.bool r) ∧ Below w.heap.size w w':=by
 have hu47:=Try.underlying47
 have HR0_2:=zm_ hr0_2
 have HC0_2:=zm_ hc0_2
 clear hr0_2 hc0_2
 have HR0_5:=zm_ hr0_5
 have HC0_5:=zm_ hc0_5
 clear hr0_5 hc0_5
 have HR1_2:=zm_ hr1_2
 have HC1_2:=zm_ hc1_2
 clear hr1_2 hc1_2
 have HR1_5:=zm_ hr1_5
 have HC1_5:=zm_ hc1_5
 clear hr1_5 hc1_5
 have HB:=zm_ (Below.refl w.heap.size w)
 have H : (if a0_0 = a1_0 then (if a0_1 = a1_1 then ((laws_eqIntS.f k l0_2 l1_2).bind fun t352 => (if t352 = true then (if a0_3 = a1_3 then (if a0_4 = a1_4 then ((laws_eqIntS.f k l0_5 l1_5).bind fun t353 => (if t353 = true then (some true) else (some false))) else (some false)) else (some false)) else (some false))) else (some false)) else (some false)) = some r:=h
 clear h
 by_cases c3 : a0_0 = a1_0
 ·rw [if_pos c3] at H
  have c3b0 : (a0_0 == a1_0) = true:=beq_iff_eq.mpr c3
  have c3b1 : (a0_0 != a1_0) = false:=bne_eq_false_iff_eq.mpr c3
  clear c3
  by_cases c4 : a0_1 = a1_1
  ·rw [if_pos c4] at H
   have c4b0 : (a0_1 == a1_1) = true:=beq_iff_eq.mpr c4
   have c4b1 : (a0_1 != a1_1) = false:=bne_eq_false_iff_eq.mpr c4
   clear c4
   replace H:=Option.bind_eq_some_iff.mp H
   obtain ⟨t352,A50,H⟩:=H
   replace H : (if t352 = true then (if a0_3 = a1_3 then (if a0_4 = a1_4 then ((laws_eqIntS.f k l0_5 l1_5).bind fun t353 => (if t353 = true then (some true) else (some false))) else (some false)) else (some false)) else (some false)) = some r:=H
   have A5:=zm_ A50
   clear A50
   by_cases c6 : t352 = true
   ·subst c6
    have H1 : (if a0_3 = a1_3 then (if a0_4 = a1_4 then ((laws_eqIntS.f k l0_5 l1_5).bind fun t353 => (if t353 = true then (some true) else (some false))) else (some false)) else (some false)) = some r:=by rw [if_pos rfl] at H;exact H
    clear H
    have H:=H1
    clear H1
    by_cases c7 : a0_3 = a1_3
    ·rw [if_pos c7] at H
     have c7b0 : (a0_3 == a1_3) = true:=beq_iff_eq.mpr c7
     have c7b1 : (a0_3 != a1_3) = false:=bne_eq_false_iff_eq.mpr c7
     clear c7
     by_cases c8 : a0_4 = a1_4
     ·rw [if_pos c8] at H
      have c8b0 : (a0_4 == a1_4) = true:=beq_iff_eq.mpr c8
      have c8b1 : (a0_4 != a1_4) = false:=bne_eq_false_iff_eq.mpr c8
      clear c8
      replace H:=Option.bind_eq_some_iff.mp H
      obtain ⟨t353,A90,H⟩:=H
      replace H : (if t353 = true then (some true) else (some false)) = some r:=H
      have A9:=zm_ A90
      clear A90
      by_cases c10 : t353 = true
      ·subst c10
       have H1 : (some true) = some r:=by rw [if_pos rfl] at H;exact H
       clear H
       have H:=H1
       clear H1
       obtain rfl:=Option.some.inj H
       go_enter Try.func31,Try.ntmps31
       go_wp2_with (first|((with_reducible refine gate_dst (N:=2) rfl ?_);refine box_event ?hg (N:=2) ?hd (cs:=#[.int .i64 a0_0,.int .i64 a0_1,.slice A0_2 l0_2.length c0_2,.int .i64 a0_3,.int .i64 a0_4,.slice A0_5 l0_5.length c0_5]) (t:=47) ?hr ?_;(case hd => rfl);(case hg => rfl);(case hr => first|(go_simp;done)|(go_simp;rfl));intro gb350 hg w11 hbox hb;have n0_:=zm_ (below_step zB_ hb);have n1_:=zm_ (hbox);have n2_:=zm_ ((by rw [hg];exact (below_size zB_) : w.heap.size ≤ gb350));have n3_:=zm_ ((by rw [hg];exact (below_size zB_) : w.heap.size ≤ gb350));clear HB;have HB:=n0_;have BK350:=n1_;have GW350:=n2_;have GE350:=n3_;clear n0_ n1_ n2_ n3_;clear hb hbox hg)|((with_reducible refine gate_dst (N:=3) rfl ?_);refine box_event ?hg (N:=3) ?hd (cs:=#[.int .i64 a1_0,.int .i64 a1_1,.slice A1_2 l1_2.length c1_2,.int .i64 a1_3,.int .i64 a1_4,.slice A1_5 l1_5.length c1_5]) (t:=47) ?hr ?_;(case hd => rfl);(case hg => rfl);(case hr => first|(go_simp;done)|(go_simp;rfl));intro gb351 hg w12 hbox hb;have n0_:=zm_ (blk_below (g:=gb350) (o:=.cells #[.int .i64 a0_0,.int .i64 a0_1,.slice A0_2 l0_2.length c0_2,.int .i64 a0_3,.int .i64 a0_4,.slice A0_5 l0_5.length c0_5] 47 (0,0)) (by (with_reducible repeat first|refine zl_ ?_ _|refine zr_ ?_|refine zk_ ?_ _);exact BK350.out) hb);have n1_:=zm_ (below_step (by repeat (first|(with_reducible first|exact HB.out|apply za_|apply zn_|apply zd_|refine zs_ ?_ GE350.out)|exact HB.out)) hb);have n2_:=zm_ (hbox);have n3_:=zm_ ((by rw [hg];exact (below_size (by repeat (first|(with_reducible first|exact HB.out|apply za_|apply zn_|apply zd_|refine zs_ ?_ GE350.out)|exact HB.out))) : w.heap.size ≤ gb351));have n4_:=zm_ ((by rw [hg];exact (below_size (by repeat (first|(with_reducible first|exact HB.out|apply za_|apply zn_|apply zd_|refine zs_ ?_ GE350.out)|exact HB.out))) : w.heap.size ≤ gb351));have n5_:=zm_ ((by rw [hg];exact Nat.ne_of_lt (blk_lt (g:=gb350) (o:=.cells #[.int .i64 a0_0,.int .i64 a0_1,.slice A0_2 l0_2.length c0_2,.int .i64 a0_3,.int .i64 a0_4,.slice A0_5 l0_5.length c0_5] 47 (0,0)) (by (with_reducible repeat first|refine zl_ ?_ _|refine zr_ ?_|refine zk_ ?_ _);exact BK350.out)) : gb350 ≠ gb351));have n6_:=zm_ ((by rw [hg];exact Nat.ne_of_gt (blk_lt (g:=gb350) (o:=.cells #[.int .i64 a0_0,.int .i64 a0_1,.slice A0_2 l0_2.length c0_2,.int .i64 a0_3,.int .i64 a0_4,.slice A0_5 l0_5.length c0_5] 47 (0,0)) (by (with_reducible repeat first|refine zl_ ?_ _|refine zr_ ?_|refine zk_ ?_ _);exact BK350.out)) : gb351 ≠ gb350));clear BK350;clear HB;have BK350:=n0_;have HB:=n1_;have BK351:=n2_;have GW351:=n3_;have GE351:=n4_;have NB350_351:=n5_;have NB351_350:=n6_;clear n0_ n1_ n2_ n3_ n4_ n5_ n6_;clear hb hbox hg;have hnb13:=NB350_351.out;have hnc13:=NB351_350.out;have hcz14_0 : w12.cell? ⟨gb350,0,none⟩ = some (.int .i64 a0_0):=(zc_ BK350.out 0).trans rfl;have hcz14_1 : w12.cell? ⟨gb350,1,none⟩ = some (.int .i64 a0_1):=(zc_ BK350.out 1).trans rfl;have hcz14_2 : w12.cell? ⟨gb350,2,none⟩ = some (.slice A0_2 l0_2.length c0_2):=(zc_ BK350.out 2).trans rfl;have hcz14_3 : w12.cell? ⟨gb350,3,none⟩ = some (.int .i64 a0_3):=(zc_ BK350.out 3).trans rfl;have hcz14_4 : w12.cell? ⟨gb350,4,none⟩ = some (.int .i64 a0_4):=(zc_ BK350.out 4).trans rfl;have hcz14_5 : w12.cell? ⟨gb350,5,none⟩ = some (.slice A0_5 l0_5.length c0_5):=(zc_ BK350.out 5).trans rfl;have hfz14_0:=zf_ BK350.out 0;have hfz14_1:=zf_ BK350.out 1;have hfz14_2:=zf_ BK350.out 2;have hfz14_3:=zf_ BK350.out 3;have hfz14_4:=zf_ BK350.out 4;have hfz14_5:=zf_ BK350.out 5;have hcz15_0 : w12.cell? ⟨gb351,0,none⟩ = some (.int .i64 a1_0):=(zc_ BK351.out 0).trans rfl;have hcz15_1 : w12.cell? ⟨gb351,1,none⟩ = some (.int .i64 a1_1):=(zc_ BK351.out 1).trans rfl;have hcz15_2 : w12.cell? ⟨gb351,2,none⟩ = some (.slice A1_2 l1_2.length c1_2):=(zc_ BK351.out 2).trans rfl;have hcz15_3 : w12.cell? ⟨gb351,3,none⟩ = some (.int .i64 a1_3):=(zc_ BK351.out 3).trans rfl;have hcz15_4 : w12.cell? ⟨gb351,4,none⟩ = some (.int .i64 a1_4):=(zc_ BK351.out 4).trans rfl;have hcz15_5 : w12.cell? ⟨gb351,5,none⟩ = some (.slice A1_5 l1_5.length c1_5):=(zc_ BK351.out 5).trans rfl;have hfz15_0:=zf_ BK351.out 0;have hfz15_1:=zf_ BK351.out 1;have hfz15_2:=zf_ BK351.out 2;have hfz15_3:=zf_ BK351.out 3;have hfz15_4:=zf_ BK351.out 4;have hfz15_5:=zf_ BK351.out 5)|((with_reducible refine gate_callee (f:=42) rfl ?_);refine goesL_ (some 19) rfl rfl Try.func42 (by kernel_rfl) rfl #[.slice A0_2 l0_2.length c0_2,.slice A1_2 l1_2.length c1_2] rfl zq_ ?_;(with_reducible refine (laws_eqIntS.calls k _ _ l0_2 _ _ l1_2 true _ ?side1 ?side2 ?side3 ?side4 A5.out).mono ?_);(case side1 => repeat (first|exact (Kd.C_below HR0_2.out HB.out)|(with_reducible refine Kd.C_alloc ?_ _)|(with_reducible refine Kd.C_drewN ?_ _)|(with_reducible refine Kd.C_drew ?_)));(case side2 => exact HC0_2.out);(case side3 => repeat (first|exact (Kd.C_below HR1_2.out HB.out)|(with_reducible refine Kd.C_alloc ?_ _)|(with_reducible refine Kd.C_drewN ?_ _)|(with_reducible refine Kd.C_drew ?_)));(case side4 => exact HC1_2.out);rintro e w' ⟨rfl,⟨nd,rfl⟩⟩;refine ⟨_,rfl,?_⟩)|((with_reducible refine gate_callee (f:=42) rfl ?_);refine goesL_ (some 35) rfl rfl Try.func42 (by kernel_rfl) rfl #[.slice A0_5 l0_5.length c0_5,.slice A1_5 l1_5.length c1_5] rfl zq_ ?_;(with_reducible refine (laws_eqIntS.calls k _ _ l0_5 _ _ l1_5 true _ ?side1 ?side2 ?side3 ?side4 A9.out).mono ?_);(case side1 => repeat (first|exact (Kd.C_below HR0_5.out (by repeat (first|(with_reducible first|exact HB.out|apply za_|apply zn_|apply zd_|refine zs_ ?_ GE350.out|refine zs_ ?_ GE351.out)|exact HB.out)))|(with_reducible refine Kd.C_alloc ?_ _)|(with_reducible refine Kd.C_drewN ?_ _)|(with_reducible refine Kd.C_drew ?_)));(case side2 => exact HC0_5.out);(case side3 => repeat (first|exact (Kd.C_below HR1_5.out (by repeat (first|(with_reducible first|exact HB.out|apply za_|apply zn_|apply zd_|refine zs_ ?_ GE350.out|refine zs_ ?_ GE351.out)|exact HB.out)))|(with_reducible refine Kd.C_alloc ?_ _)|(with_reducible refine Kd.C_drewN ?_ _)|(with_reducible refine Kd.C_drew ?_)));(case side4 => exact HC1_5.out);rintro e w' ⟨rfl,⟨nd,rfl⟩⟩;refine ⟨_,rfl,?_⟩))
       go_ret
       exact ⟨zE_,by repeat (first|(with_reducible first|exact HB.out|apply za_|apply zn_|apply zd_|refine zs_ ?_ GE350.out|refine zs_ ?_ GE351.out)|exact HB.out)⟩
      ·replace c10:=Bool.eq_false_iff.mpr c10
       subst c10
       have H1 : (some false) = some r:=by rw [if_neg (show ¬ (false = true) by decide)] at H;exact H
       clear H
       have H:=H1
       clear H1
       obtain rfl:=Option.some.inj H
       go_enter Try.func31,Try.ntmps31
       go_wp2_with (first|((with_reducible refine gate_dst (N:=2) rfl ?_);refine box_event ?hg (N:=2) ?hd (cs:=#[.int .i64 a0_0,.int .i64 a0_1,.slice A0_2 l0_2.length c0_2,.int .i64 a0_3,.int .i64 a0_4,.slice A0_5 l0_5.length c0_5]) (t:=47) ?hr ?_;(case hd => rfl);(case hg => rfl);(case hr => first|(go_simp;done)|(go_simp;rfl));intro gb350 hg w16 hbox hb;have n0_:=zm_ (below_step zB_ hb);have n1_:=zm_ (hbox);have n2_:=zm_ ((by rw [hg];exact (below_size zB_) : w.heap.size ≤ gb350));have n3_:=zm_ ((by rw [hg];exact (below_size zB_) : w.heap.size ≤ gb350));clear HB;have HB:=n0_;have BK350:=n1_;have GW350:=n2_;have GE350:=n3_;clear n0_ n1_ n2_ n3_;clear hb hbox hg)|((with_reducible refine gate_dst (N:=3) rfl ?_);refine box_event ?hg (N:=3) ?hd (cs:=#[.int .i64 a1_0,.int .i64 a1_1,.slice A1_2 l1_2.length c1_2,.int .i64 a1_3,.int .i64 a1_4,.slice A1_5 l1_5.length c1_5]) (t:=47) ?hr ?_;(case hd => rfl);(case hg => rfl);(case hr => first|(go_simp;done)|(go_simp;rfl));intro gb351 hg w17 hbox hb;have n0_:=zm_ (blk_below (g:=gb350) (o:=.cells #[.int .i64 a0_0,.int .i64 a0_1,.slice A0_2 l0_2.length c0_2,.int .i64 a0_3,.int .i64 a0_4,.slice A0_5 l0_5.length c0_5] 47 (0,0)) (by (with_reducible repeat first|refine zl_ ?_ _|refine zr_ ?_|refine zk_ ?_ _);exact BK350.out) hb);have n1_:=zm_ (below_step (by repeat (first|(with_reducible first|exact HB.out|apply za_|apply zn_|apply zd_|refine zs_ ?_ GE350.out)|exact HB.out)) hb);have n2_:=zm_ (hbox);have n3_:=zm_ ((by rw [hg];exact (below_size (by repeat (first|(with_reducible first|exact HB.out|apply za_|apply zn_|apply zd_|refine zs_ ?_ GE350.out)|exact HB.out))) : w.heap.size ≤ gb351));have n4_:=zm_ ((by rw [hg];exact (below_size (by repeat (first|(with_reducible first|exact HB.out|apply za_|apply zn_|apply zd_|refine zs_ ?_ GE350.out)|exact HB.out))) : w.heap.size ≤ gb351));have n5_:=zm_ ((by rw [hg];exact Nat.ne_of_lt (blk_lt (g:=gb350) (o:=.cells #[.int .i64 a0_0,.int .i64 a0_1,.slice A0_2 l0_2.length c0_2,.int .i64 a0_3,.int .i64 a0_4,.slice A0_5 l0_5.length c0_5] 47 (0,0)) (by (with_reducible repeat first|refine zl_ ?_ _|refine zr_ ?_|refine zk_ ?_ _);exact BK350.out)) : gb350 ≠ gb351));have n6_:=zm_ ((by rw [hg];exact Nat.ne_of_gt (blk_lt (g:=gb350) (o:=.cells #[.int .i64 a0_0,.int .i64 a0_1,.slice A0_2 l0_2.length c0_2,.int .i64 a0_3,.int .i64 a0_4,.slice A0_5 l0_5.length c0_5] 47 (0,0)) (by (with_reducible repeat first|refine zl_ ?_ _|refine zr_ ?_|refine zk_ ?_ _);exact BK350.out)) : gb351 ≠ gb350));clear BK350;clear HB;have BK350:=n0_;have HB:=n1_;have BK351:=n2_;have GW351:=n3_;have GE351:=n4_;have NB350_351:=n5_;have NB351_350:=n6_;clear n0_ n1_ n2_ n3_ n4_ n5_ n6_;clear hb hbox hg;have hnb18:=NB350_351.out;have hnc18:=NB351_350.out;have hcz19_0 : w17.cell? ⟨gb350,0,none⟩ = some (.int .i64 a0_0):=(zc_ BK350.out 0).trans rfl;have hcz19_1 : w17.cell? ⟨gb350,1,none⟩ = some (.int .i64 a0_1):=(zc_ BK350.out 1).trans rfl;have hcz19_2 : w17.cell? ⟨gb350,2,none⟩ = some (.slice A0_2 l0_2.length c0_2):=(zc_ BK350.out 2).trans rfl;have hcz19_3 : w17.cell? ⟨gb350,3,none⟩ = some (.int .i64 a0_3):=(zc_ BK350.out 3).trans rfl;have hcz19_4 : w17.cell? ⟨gb350,4,none⟩ = some (.int .i64 a0_4):=(zc_ BK350.out 4).trans rfl;have hcz19_5 : w17.cell? ⟨gb350,5,none⟩ = some (.slice A0_5 l0_5.length c0_5):=(zc_ BK350.out 5).trans rfl;have hfz19_0:=zf_ BK350.out 0;have hfz19_1:=zf_ BK350.out 1;have hfz19_2:=zf_ BK350.out 2;have hfz19_3:=zf_ BK350.out 3;have hfz19_4:=zf_ BK350.out 4;have hfz19_5:=zf_ BK350.out 5;have hcz20_0 : w17.cell? ⟨gb351,0,none⟩ = some (.int .i64 a1_0):=(zc_ BK351.out 0).trans rfl;have hcz20_1 : w17.cell? ⟨gb351,1,none⟩ = some (.int .i64 a1_1):=(zc_ BK351.out 1).trans rfl;have hcz20_2 : w17.cell? ⟨gb351,2,none⟩ = some (.slice A1_2 l1_2.length c1_2):=(zc_ BK351.out 2).trans rfl;have hcz20_3 : w17.cell? ⟨gb351,3,none⟩ = some (.int .i64 a1_3):=(zc_ BK351.out 3).trans rfl;have hcz20_4 : w17.cell? ⟨gb351,4,none⟩ = some (.int .i64 a1_4):=(zc_ BK351.out 4).trans rfl;have hcz20_5 : w17.cell? ⟨gb351,5,none⟩ = some (.slice A1_5 l1_5.length c1_5):=(zc_ BK351.out 5).trans rfl;have hfz20_0:=zf_ BK351.out 0;have hfz20_1:=zf_ BK351.out 1;have hfz20_2:=zf_ BK351.out 2;have hfz20_3:=zf_ BK351.out 3;have hfz20_4:=zf_ BK351.out 4;have hfz20_5:=zf_ BK351.out 5)|((with_reducible refine gate_callee (f:=42) rfl ?_);refine goesL_ (some 19) rfl rfl Try.func42 (by kernel_rfl) rfl #[.slice A0_2 l0_2.length c0_2,.slice A1_2 l1_2.length c1_2] rfl zq_ ?_;(with_reducible refine (laws_eqIntS.calls k _ _ l0_2 _ _ l1_2 true _ ?side1 ?side2 ?side3 ?side4 A5.out).mono ?_);(case side1 => repeat (first|exact (Kd.C_below HR0_2.out HB.out)|(with_reducible refine Kd.C_alloc ?_ _)|(with_reducible refine Kd.C_drewN ?_ _)|(with_reducible refine Kd.C_drew ?_)));(case side2 => exact HC0_2.out);(case side3 => repeat (first|exact (Kd.C_below HR1_2.out HB.out)|(with_reducible refine Kd.C_alloc ?_ _)|(with_reducible refine Kd.C_drewN ?_ _)|(with_reducible refine Kd.C_drew ?_)));(case side4 => exact HC1_2.out);rintro e w' ⟨rfl,⟨nd,rfl⟩⟩;refine ⟨_,rfl,?_⟩)|((with_reducible refine gate_callee (f:=42) rfl ?_);refine goesL_ (some 35) rfl rfl Try.func42 (by kernel_rfl) rfl #[.slice A0_5 l0_5.length c0_5,.slice A1_5 l1_5.length c1_5] rfl zq_ ?_;(with_reducible refine (laws_eqIntS.calls k _ _ l0_5 _ _ l1_5 false _ ?side1 ?side2 ?side3 ?side4 A9.out).mono ?_);(case side1 => repeat (first|exact (Kd.C_below HR0_5.out (by repeat (first|(with_reducible first|exact HB.out|apply za_|apply zn_|apply zd_|refine zs_ ?_ GE350.out|refine zs_ ?_ GE351.out)|exact HB.out)))|(with_reducible refine Kd.C_alloc ?_ _)|(with_reducible refine Kd.C_drewN ?_ _)|(with_reducible refine Kd.C_drew ?_)));(case side2 => exact HC0_5.out);(case side3 => repeat (first|exact (Kd.C_below HR1_5.out (by repeat (first|(with_reducible first|exact HB.out|apply za_|apply zn_|apply zd_|refine zs_ ?_ GE350.out|refine zs_ ?_ GE351.out)|exact HB.out)))|(with_reducible refine Kd.C_alloc ?_ _)|(with_reducible refine Kd.C_drewN ?_ _)|(with_reducible refine Kd.C_drew ?_)));(case side4 => exact HC1_5.out);rintro e w' ⟨rfl,⟨nd,rfl⟩⟩;refine ⟨_,rfl,?_⟩))
       go_ret
       exact ⟨zE_,by repeat (first|(with_reducible first|exact HB.out|apply za_|apply zn_|apply zd_|refine zs_ ?_ GE350.out|refine zs_ ?_ GE351.out)|exact HB.out)⟩
     ·rw [if_neg c8] at H
      have c8b0 : (a0_4 == a1_4) = false:=beq_eq_false_iff_ne.mpr c8
      have c8b1 : (a0_4 != a1_4) = true:=bne_iff_ne.mpr c8
      obtain rfl:=Option.some.inj H
      go_enter Try.func31,Try.ntmps31
      go_wp2_with (first|((with_reducible refine gate_dst (N:=2) rfl ?_);refine box_event ?hg (N:=2) ?hd (cs:=#[.int .i64 a0_0,.int .i64 a0_1,.slice A0_2 l0_2.length c0_2,.int .i64 a0_3,.int .i64 a0_4,.slice A0_5 l0_5.length c0_5]) (t:=47) ?hr ?_;(case hd => rfl);(case hg => rfl);(case hr => first|(go_simp;done)|(go_simp;rfl));intro gb350 hg w21 hbox hb;have n0_:=zm_ (below_step zB_ hb);have n1_:=zm_ (hbox);have n2_:=zm_ ((by rw [hg];exact (below_size zB_) : w.heap.size ≤ gb350));have n3_:=zm_ ((by rw [hg];exact (below_size zB_) : w.heap.size ≤ gb350));clear HB;have HB:=n0_;have BK350:=n1_;have GW350:=n2_;have GE350:=n3_;clear n0_ n1_ n2_ n3_;clear hb hbox hg)|((with_reducible refine gate_dst (N:=3) rfl ?_);refine box_event ?hg (N:=3) ?hd (cs:=#[.int .i64 a1_0,.int .i64 a1_1,.slice A1_2 l1_2.length c1_2,.int .i64 a1_3,.int .i64 a1_4,.slice A1_5 l1_5.length c1_5]) (t:=47) ?hr ?_;(case hd => rfl);(case hg => rfl);(case hr => first|(go_simp;done)|(go_simp;rfl));intro gb351 hg w22 hbox hb;have n0_:=zm_ (blk_below (g:=gb350) (o:=.cells #[.int .i64 a0_0,.int .i64 a0_1,.slice A0_2 l0_2.length c0_2,.int .i64 a0_3,.int .i64 a0_4,.slice A0_5 l0_5.length c0_5] 47 (0,0)) (by (with_reducible repeat first|refine zl_ ?_ _|refine zr_ ?_|refine zk_ ?_ _);exact BK350.out) hb);have n1_:=zm_ (below_step (by repeat (first|(with_reducible first|exact HB.out|apply za_|apply zn_|apply zd_|refine zs_ ?_ GE350.out)|exact HB.out)) hb);have n2_:=zm_ (hbox);have n3_:=zm_ ((by rw [hg];exact (below_size (by repeat (first|(with_reducible first|exact HB.out|apply za_|apply zn_|apply zd_|refine zs_ ?_ GE350.out)|exact HB.out))) : w.heap.size ≤ gb351));have n4_:=zm_ ((by rw [hg];exact (below_size (by repeat (first|(with_reducible first|exact HB.out|apply za_|apply zn_|apply zd_|refine zs_ ?_ GE350.out)|exact HB.out))) : w.heap.size ≤ gb351));have n5_:=zm_ ((by rw [hg];exact Nat.ne_of_lt (blk_lt (g:=gb350) (o:=.cells #[.int .i64 a0_0,.int .i64 a0_1,.slice A0_2 l0_2.length c0_2,.int .i64 a0_3,.int .i64 a0_4,.slice A0_5 l0_5.length c0_5] 47 (0,0)) (by (with_reducible repeat first|refine zl_ ?_ _|refine zr_ ?_|refine zk_ ?_ _);exact BK350.out)) : gb350 ≠ gb351));have n6_:=zm_ ((by rw [hg];exact Nat.ne_of_gt (blk_lt (g:=gb350) (o:=.cells #[.int .i64 a0_0,.int .i64 a0_1,.slice A0_2 l0_2.length c0_2,.int .i64 a0_3,.int .i64 a0_4,.slice A0_5 l0_5.length c0_5] 47 (0,0)) (by (with_reducible repeat first|refine zl_ ?_ _|refine zr_ ?_|refine zk_ ?_ _);exact BK350.out)) : gb351 ≠ gb350));clear BK350;clear HB;have BK350:=n0_;have HB:=n1_;have BK351:=n2_;have GW351:=n3_;have GE351:=n4_;have NB350_351:=n5_;have NB351_350:=n6_;clear n0_ n1_ n2_ n3_ n4_ n5_ n6_;clear hb hbox hg;have hnb23:=NB350_351.out;have hnc23:=NB351_350.out;have hcz24_0 : w22.cell? ⟨gb350,0,none⟩ = some (.int .i64 a0_0):=(zc_ BK350.out 0).trans rfl;have hcz24_1 : w22.cell? ⟨gb350,1,none⟩ = some (.int .i64 a0_1):=(zc_ BK350.out 1).trans rfl;have hcz24_2 : w22.cell? ⟨gb350,2,none⟩ = some (.slice A0_2 l0_2.length c0_2):=(zc_ BK350.out 2).trans rfl;have hcz24_3 : w22.cell? ⟨gb350,3,none⟩ = some (.int .i64 a0_3):=(zc_ BK350.out 3).trans rfl;have hcz24_4 : w22.cell? ⟨gb350,4,none⟩ = some (.int .i64 a0_4):=(zc_ BK350.out 4).trans rfl;have hcz24_5 : w22.cell? ⟨gb350,5,none⟩ = some (.slice A0_5 l0_5.length c0_5):=(zc_ BK350.out 5).trans rfl;have hfz24_0:=zf_ BK350.out 0;have hfz24_1:=zf_ BK350.out 1;have hfz24_2:=zf_ BK350.out 2;have hfz24_3:=zf_ BK350.out 3;have hfz24_4:=zf_ BK350.out 4;have hfz24_5:=zf_ BK350.out 5;have hcz25_0 : w22.cell? ⟨gb351,0,none⟩ = some (.int .i64 a1_0):=(zc_ BK351.out 0).trans rfl;have hcz25_1 : w22.cell? ⟨gb351,1,none⟩ = some (.int .i64 a1_1):=(zc_ BK351.out 1).trans rfl;have hcz25_2 : w22.cell? ⟨gb351,2,none⟩ = some (.slice A1_2 l1_2.length c1_2):=(zc_ BK351.out 2).trans rfl;have hcz25_3 : w22.cell? ⟨gb351,3,none⟩ = some (.int .i64 a1_3):=(zc_ BK351.out 3).trans rfl;have hcz25_4 : w22.cell? ⟨gb351,4,none⟩ = some (.int .i64 a1_4):=(zc_ BK351.out 4).trans rfl;have hcz25_5 : w22.cell? ⟨gb351,5,none⟩ = some (.slice A1_5 l1_5.length c1_5):=(zc_ BK351.out 5).trans rfl;have hfz25_0:=zf_ BK351.out 0;have hfz25_1:=zf_ BK351.out 1;have hfz25_2:=zf_ BK351.out 2;have hfz25_3:=zf_ BK351.out 3;have hfz25_4:=zf_ BK351.out 4;have hfz25_5:=zf_ BK351.out 5)|((with_reducible refine gate_callee (f:=42) rfl ?_);refine goesL_ (some 19) rfl rfl Try.func42 (by kernel_rfl) rfl #[.slice A0_2 l0_2.length c0_2,.slice A1_2 l1_2.length c1_2] rfl zq_ ?_;(with_reducible refine (laws_eqIntS.calls k _ _ l0_2 _ _ l1_2 true _ ?side1 ?side2 ?side3 ?side4 A5.out).mono ?_);(case side1 => repeat (first|exact (Kd.C_below HR0_2.out HB.out)|(with_reducible refine Kd.C_alloc ?_ _)|(with_reducible refine Kd.C_drewN ?_ _)|(with_reducible refine Kd.C_drew ?_)));(case side2 => exact HC0_2.out);(case side3 => repeat (first|exact (Kd.C_below HR1_2.out HB.out)|(with_reducible refine Kd.C_alloc ?_ _)|(with_reducible refine Kd.C_drewN ?_ _)|(with_reducible refine Kd.C_drew ?_)));(case side4 => exact HC1_2.out);rintro e w' ⟨rfl,⟨nd,rfl⟩⟩;refine ⟨_,rfl,?_⟩))
      go_ret
      exact ⟨zE_,by repeat (first|(with_reducible first|exact HB.out|apply za_|apply zn_|apply zd_|refine zs_ ?_ GE350.out|refine zs_ ?_ GE351.out)|exact HB.out)⟩
    ·rw [if_neg c7] at H
     have c7b0 : (a0_3 == a1_3) = false:=beq_eq_false_iff_ne.mpr c7
     have c7b1 : (a0_3 != a1_3) = true:=bne_iff_ne.mpr c7
     obtain rfl:=Option.some.inj H
     go_enter Try.func31,Try.ntmps31
     go_wp2_with (first|((with_reducible refine gate_dst (N:=2) rfl ?_);refine box_event ?hg (N:=2) ?hd (cs:=#[.int .i64 a0_0,.int .i64 a0_1,.slice A0_2 l0_2.length c0_2,.int .i64 a0_3,.int .i64 a0_4,.slice A0_5 l0_5.length c0_5]) (t:=47) ?hr ?_;(case hd => rfl);(case hg => rfl);(case hr => first|(go_simp;done)|(go_simp;rfl));intro gb350 hg w26 hbox hb;have n0_:=zm_ (below_step zB_ hb);have n1_:=zm_ (hbox);have n2_:=zm_ ((by rw [hg];exact (below_size zB_) : w.heap.size ≤ gb350));have n3_:=zm_ ((by rw [hg];exact (below_size zB_) : w.heap.size ≤ gb350));clear HB;have HB:=n0_;have BK350:=n1_;have GW350:=n2_;have GE350:=n3_;clear n0_ n1_ n2_ n3_;clear hb hbox hg)|((with_reducible refine gate_dst (N:=3) rfl ?_);refine box_event ?hg (N:=3) ?hd (cs:=#[.int .i64 a1_0,.int .i64 a1_1,.slice A1_2 l1_2.length c1_2,.int .i64 a1_3,.int .i64 a1_4,.slice A1_5 l1_5.length c1_5]) (t:=47) ?hr ?_;(case hd => rfl);(case hg => rfl);(case hr => first|(go_simp;done)|(go_simp;rfl));intro gb351 hg w27 hbox hb;have n0_:=zm_ (blk_below (g:=gb350) (o:=.cells #[.int .i64 a0_0,.int .i64 a0_1,.slice A0_2 l0_2.length c0_2,.int .i64 a0_3,.int .i64 a0_4,.slice A0_5 l0_5.length c0_5] 47 (0,0)) (by (with_reducible repeat first|refine zl_ ?_ _|refine zr_ ?_|refine zk_ ?_ _);exact BK350.out) hb);have n1_:=zm_ (below_step (by repeat (first|(with_reducible first|exact HB.out|apply za_|apply zn_|apply zd_|refine zs_ ?_ GE350.out)|exact HB.out)) hb);have n2_:=zm_ (hbox);have n3_:=zm_ ((by rw [hg];exact (below_size (by repeat (first|(with_reducible first|exact HB.out|apply za_|apply zn_|apply zd_|refine zs_ ?_ GE350.out)|exact HB.out))) : w.heap.size ≤ gb351));have n4_:=zm_ ((by rw [hg];exact (below_size (by repeat (first|(with_reducible first|exact HB.out|apply za_|apply zn_|apply zd_|refine zs_ ?_ GE350.out)|exact HB.out))) : w.heap.size ≤ gb351));have n5_:=zm_ ((by rw [hg];exact Nat.ne_of_lt (blk_lt (g:=gb350) (o:=.cells #[.int .i64 a0_0,.int .i64 a0_1,.slice A0_2 l0_2.length c0_2,.int .i64 a0_3,.int .i64 a0_4,.slice A0_5 l0_5.length c0_5] 47 (0,0)) (by (with_reducible repeat first|refine zl_ ?_ _|refine zr_ ?_|refine zk_ ?_ _);exact BK350.out)) : gb350 ≠ gb351));have n6_:=zm_ ((by rw [hg];exact Nat.ne_of_gt (blk_lt (g:=gb350) (o:=.cells #[.int .i64 a0_0,.int .i64 a0_1,.slice A0_2 l0_2.length c0_2,.int .i64 a0_3,.int .i64 a0_4,.slice A0_5 l0_5.length c0_5] 47 (0,0)) (by (with_reducible repeat first|refine zl_ ?_ _|refine zr_ ?_|refine zk_ ?_ _);exact BK350.out)) : gb351 ≠ gb350));clear BK350;clear HB;have BK350:=n0_;have HB:=n1_;have BK351:=n2_;have GW351:=n3_;have GE351:=n4_;have NB350_351:=n5_;have NB351_350:=n6_;clear n0_ n1_ n2_ n3_ n4_ n5_ n6_;clear hb hbox hg;have hnb28:=NB350_351.out;have hnc28:=NB351_350.out;have hcz29_0 : w27.cell? ⟨gb350,0,none⟩ = some (.int .i64 a0_0):=(zc_ BK350.out 0).trans rfl;have hcz29_1 : w27.cell? ⟨gb350,1,none⟩ = some (.int .i64 a0_1):=(zc_ BK350.out 1).trans rfl;have hcz29_2 : w27.cell? ⟨gb350,2,none⟩ = some (.slice A0_2 l0_2.length c0_2):=(zc_ BK350.out 2).trans rfl;have hcz29_3 : w27.cell? ⟨gb350,3,none⟩ = some (.int .i64 a0_3):=(zc_ BK350.out 3).trans rfl;have hcz29_4 : w27.cell? ⟨gb350,4,none⟩ = some (.int .i64 a0_4):=(zc_ BK350.out 4).trans rfl;have hcz29_5 : w27.cell? ⟨gb350,5,none⟩ = some (.slice A0_5 l0_5.length c0_5):=(zc_ BK350.out 5).trans rfl;have hfz29_0:=zf_ BK350.out 0;have hfz29_1:=zf_ BK350.out 1;have hfz29_2:=zf_ BK350.out 2;have hfz29_3:=zf_ BK350.out 3;have hfz29_4:=zf_ BK350.out 4;have hfz29_5:=zf_ BK350.out 5;have hcz30_0 : w27.cell? ⟨gb351,0,none⟩ = some (.int .i64 a1_0):=(zc_ BK351.out 0).trans rfl;have hcz30_1 : w27.cell? ⟨gb351,1,none⟩ = some (.int .i64 a1_1):=(zc_ BK351.out 1).trans rfl;have hcz30_2 : w27.cell? ⟨gb351,2,none⟩ = some (.slice A1_2 l1_2.length c1_2):=(zc_ BK351.out 2).trans rfl;have hcz30_3 : w27.cell? ⟨gb351,3,none⟩ = some (.int .i64 a1_3):=(zc_ BK351.out 3).trans rfl;have hcz30_4 : w27.cell? ⟨gb351,4,none⟩ = some (.int .i64 a1_4):=(zc_ BK351.out 4).trans rfl;have hcz30_5 : w27.cell? ⟨gb351,5,none⟩ = some (.slice A1_5 l1_5.length c1_5):=(zc_ BK351.out 5).trans rfl;have hfz30_0:=zf_ BK351.out 0;have hfz30_1:=zf_ BK351.out 1;have hfz30_2:=zf_ BK351.out 2;have hfz30_3:=zf_ BK351.out 3;have hfz30_4:=zf_ BK351.out 4;have hfz30_5:=zf_ BK351.out 5)|((with_reducible refine gate_callee (f:=42) rfl ?_);refine goesL_ (some 19) rfl rfl Try.func42 (by kernel_rfl) rfl #[.slice A0_2 l0_2.length c0_2,.slice A1_2 l1_2.length c1_2] rfl zq_ ?_;(with_reducible refine (laws_eqIntS.calls k _ _ l0_2 _ _ l1_2 true _ ?side1 ?side2 ?side3 ?side4 A5.out).mono ?_);(case side1 => repeat (first|exact (Kd.C_below HR0_2.out HB.out)|(with_reducible refine Kd.C_alloc ?_ _)|(with_reducible refine Kd.C_drewN ?_ _)|(with_reducible refine Kd.C_drew ?_)));(case side2 => exact HC0_2.out);(case side3 => repeat (first|exact (Kd.C_below HR1_2.out HB.out)|(with_reducible refine Kd.C_alloc ?_ _)|(with_reducible refine Kd.C_drewN ?_ _)|(with_reducible refine Kd.C_drew ?_)));(case side4 => exact HC1_2.out);rintro e w' ⟨rfl,⟨nd,rfl⟩⟩;refine ⟨_,rfl,?_⟩))
     go_ret
     exact ⟨zE_,by repeat (first|(with_reducible first|exact HB.out|apply za_|apply zn_|apply zd_|refine zs_ ?_ GE350.out|refine zs_ ?_ GE351.out)|exact HB.out)⟩
   ·replace c6:=Bool.eq_false_iff.mpr c6
    subst c6
    have H1 : (some false) = some r:=by rw [if_neg (show ¬ (false = true) by decide)] at H;exact H
    clear H
    have H:=H1
    clear H1
    obtain rfl:=Option.some.inj H
    go_enter Try.func31,Try.ntmps31
    go_wp2_with (first|((with_reducible refine gate_dst (N:=2) rfl ?_);refine box_event ?hg (N:=2) ?hd (cs:=#[.int .i64 a0_0,.int .i64 a0_1,.slice A0_2 l0_2.length c0_2,.int .i64 a0_3,.int .i64 a0_4,.slice A0_5 l0_5.length c0_5]) (t:=47) ?hr ?_;(case hd => rfl);(case hg => rfl);(case hr => first|(go_simp;done)|(go_simp;rfl));intro gb350 hg w31 hbox hb;have n0_:=zm_ (below_step zB_ hb);have n1_:=zm_ (hbox);have n2_:=zm_ ((by rw [hg];exact (below_size zB_) : w.heap.size ≤ gb350));have n3_:=zm_ ((by rw [hg];exact (below_size zB_) : w.heap.size ≤ gb350));clear HB;have HB:=n0_;have BK350:=n1_;have GW350:=n2_;have GE350:=n3_;clear n0_ n1_ n2_ n3_;clear hb hbox hg)|((with_reducible refine gate_dst (N:=3) rfl ?_);refine box_event ?hg (N:=3) ?hd (cs:=#[.int .i64 a1_0,.int .i64 a1_1,.slice A1_2 l1_2.length c1_2,.int .i64 a1_3,.int .i64 a1_4,.slice A1_5 l1_5.length c1_5]) (t:=47) ?hr ?_;(case hd => rfl);(case hg => rfl);(case hr => first|(go_simp;done)|(go_simp;rfl));intro gb351 hg w32 hbox hb;have n0_:=zm_ (blk_below (g:=gb350) (o:=.cells #[.int .i64 a0_0,.int .i64 a0_1,.slice A0_2 l0_2.length c0_2,.int .i64 a0_3,.int .i64 a0_4,.slice A0_5 l0_5.length c0_5] 47 (0,0)) (by (with_reducible repeat first|refine zl_ ?_ _|refine zr_ ?_|refine zk_ ?_ _);exact BK350.out) hb);have n1_:=zm_ (below_step (by repeat (first|(with_reducible first|exact HB.out|apply za_|apply zn_|apply zd_|refine zs_ ?_ GE350.out)|exact HB.out)) hb);have n2_:=zm_ (hbox);have n3_:=zm_ ((by rw [hg];exact (below_size (by repeat (first|(with_reducible first|exact HB.out|apply za_|apply zn_|apply zd_|refine zs_ ?_ GE350.out)|exact HB.out))) : w.heap.size ≤ gb351));have n4_:=zm_ ((by rw [hg];exact (below_size (by repeat (first|(with_reducible first|exact HB.out|apply za_|apply zn_|apply zd_|refine zs_ ?_ GE350.out)|exact HB.out))) : w.heap.size ≤ gb351));have n5_:=zm_ ((by rw [hg];exact Nat.ne_of_lt (blk_lt (g:=gb350) (o:=.cells #[.int .i64 a0_0,.int .i64 a0_1,.slice A0_2 l0_2.length c0_2,.int .i64 a0_3,.int .i64 a0_4,.slice A0_5 l0_5.length c0_5] 47 (0,0)) (by (with_reducible repeat first|refine zl_ ?_ _|refine zr_ ?_|refine zk_ ?_ _);exact BK350.out)) : gb350 ≠ gb351));have n6_:=zm_ ((by rw [hg];exact Nat.ne_of_gt (blk_lt (g:=gb350) (o:=.cells #[.int .i64 a0_0,.int .i64 a0_1,.slice A0_2 l0_2.length c0_2,.int .i64 a0_3,.int .i64 a0_4,.slice A0_5 l0_5.length c0_5] 47 (0,0)) (by (with_reducible repeat first|refine zl_ ?_ _|refine zr_ ?_|refine zk_ ?_ _);exact BK350.out)) : gb351 ≠ gb350));clear BK350;clear HB;have BK350:=n0_;have HB:=n1_;have BK351:=n2_;have GW351:=n3_;have GE351:=n4_;have NB350_351:=n5_;have NB351_350:=n6_;clear n0_ n1_ n2_ n3_ n4_ n5_ n6_;clear hb hbox hg;have hnb33:=NB350_351.out;have hnc33:=NB351_350.out;have hcz34_0 : w32.cell? ⟨gb350,0,none⟩ = some (.int .i64 a0_0):=(zc_ BK350.out 0).trans rfl;have hcz34_1 : w32.cell? ⟨gb350,1,none⟩ = some (.int .i64 a0_1):=(zc_ BK350.out 1).trans rfl;have hcz34_2 : w32.cell? ⟨gb350,2,none⟩ = some (.slice A0_2 l0_2.length c0_2):=(zc_ BK350.out 2).trans rfl;have hcz34_3 : w32.cell? ⟨gb350,3,none⟩ = some (.int .i64 a0_3):=(zc_ BK350.out 3).trans rfl;have hcz34_4 : w32.cell? ⟨gb350,4,none⟩ = some (.int .i64 a0_4):=(zc_ BK350.out 4).trans rfl;have hcz34_5 : w32.cell? ⟨gb350,5,none⟩ = some (.slice A0_5 l0_5.length c0_5):=(zc_ BK350.out 5).trans rfl;have hfz34_0:=zf_ BK350.out 0;have hfz34_1:=zf_ BK350.out 1;have hfz34_2:=zf_ BK350.out 2;have hfz34_3:=zf_ BK350.out 3;have hfz34_4:=zf_ BK350.out 4;have hfz34_5:=zf_ BK350.out 5;have hcz35_0 : w32.cell? ⟨gb351,0,none⟩ = some (.int .i64 a1_0):=(zc_ BK351.out 0).trans rfl;have hcz35_1 : w32.cell? ⟨gb351,1,none⟩ = some (.int .i64 a1_1):=(zc_ BK351.out 1).trans rfl;have hcz35_2 : w32.cell? ⟨gb351,2,none⟩ = some (.slice A1_2 l1_2.length c1_2):=(zc_ BK351.out 2).trans rfl;have hcz35_3 : w32.cell? ⟨gb351,3,none⟩ = some (.int .i64 a1_3):=(zc_ BK351.out 3).trans rfl;have hcz35_4 : w32.cell? ⟨gb351,4,none⟩ = some (.int .i64 a1_4):=(zc_ BK351.out 4).trans rfl;have hcz35_5 : w32.cell? ⟨gb351,5,none⟩ = some (.slice A1_5 l1_5.length c1_5):=(zc_ BK351.out 5).trans rfl;have hfz35_0:=zf_ BK351.out 0;have hfz35_1:=zf_ BK351.out 1;have hfz35_2:=zf_ BK351.out 2;have hfz35_3:=zf_ BK351.out 3;have hfz35_4:=zf_ BK351.out 4;have hfz35_5:=zf_ BK351.out 5)|((with_reducible refine gate_callee (f:=42) rfl ?_);refine goesL_ (some 19) rfl rfl Try.func42 (by kernel_rfl) rfl #[.slice A0_2 l0_2.length c0_2,.slice A1_2 l1_2.length c1_2] rfl zq_ ?_;(with_reducible refine (laws_eqIntS.calls k _ _ l0_2 _ _ l1_2 false _ ?side1 ?side2 ?side3 ?side4 A5.out).mono ?_);(case side1 => repeat (first|exact (Kd.C_below HR0_2.out HB.out)|(with_reducible refine Kd.C_alloc ?_ _)|(with_reducible refine Kd.C_drewN ?_ _)|(with_reducible refine Kd.C_drew ?_)));(case side2 => exact HC0_2.out);(case side3 => repeat (first|exact (Kd.C_below HR1_2.out HB.out)|(with_reducible refine Kd.C_alloc ?_ _)|(with_reducible refine Kd.C_drewN ?_ _)|(with_reducible refine Kd.C_drew ?_)));(case side4 => exact HC1_2.out);rintro e w' ⟨rfl,⟨nd,rfl⟩⟩;refine ⟨_,rfl,?_⟩))
    go_ret
    exact ⟨zE_,by repeat (first|(with_reducible first|exact HB.out|apply za_|apply zn_|apply zd_|refine zs_ ?_ GE350.out|refine zs_ ?_ GE351.out)|exact HB.out)⟩
  ·rw [if_neg c4] at H
   have c4b0 : (a0_1 == a1_1) = false:=beq_eq_false_iff_ne.mpr c4
   have c4b1 : (a0_1 != a1_1) = true:=bne_iff_ne.mpr c4
   obtain rfl:=Option.some.inj H
   go_enter Try.func31,Try.ntmps31
   go_wp2_with (first|((with_reducible refine gate_dst (N:=2) rfl ?_);refine box_event ?hg (N:=2) ?hd (cs:=#[.int .i64 a0_0,.int .i64 a0_1,.slice A0_2 l0_2.length c0_2,.int .i64 a0_3,.int .i64 a0_4,.slice A0_5 l0_5.length c0_5]) (t:=47) ?hr ?_;(case hd => rfl);(case hg => rfl);(case hr => first|(go_simp;done)|(go_simp;rfl));intro gb350 hg w36 hbox hb;have n0_:=zm_ (below_step zB_ hb);have n1_:=zm_ (hbox);have n2_:=zm_ ((by rw [hg];exact (below_size zB_) : w.heap.size ≤ gb350));have n3_:=zm_ ((by rw [hg];exact (below_size zB_) : w.heap.size ≤ gb350));clear HB;have HB:=n0_;have BK350:=n1_;have GW350:=n2_;have GE350:=n3_;clear n0_ n1_ n2_ n3_;clear hb hbox hg)|((with_reducible refine gate_dst (N:=3) rfl ?_);refine box_event ?hg (N:=3) ?hd (cs:=#[.int .i64 a1_0,.int .i64 a1_1,.slice A1_2 l1_2.length c1_2,.int .i64 a1_3,.int .i64 a1_4,.slice A1_5 l1_5.length c1_5]) (t:=47) ?hr ?_;(case hd => rfl);(case hg => rfl);(case hr => first|(go_simp;done)|(go_simp;rfl));intro gb351 hg w37 hbox hb;have n0_:=zm_ (blk_below (g:=gb350) (o:=.cells #[.int .i64 a0_0,.int .i64 a0_1,.slice A0_2 l0_2.length c0_2,.int .i64 a0_3,.int .i64 a0_4,.slice A0_5 l0_5.length c0_5] 47 (0,0)) (by (with_reducible repeat first|refine zl_ ?_ _|refine zr_ ?_|refine zk_ ?_ _);exact BK350.out) hb);have n1_:=zm_ (below_step (by repeat (first|(with_reducible first|exact HB.out|apply za_|apply zn_|apply zd_|refine zs_ ?_ GE350.out)|exact HB.out)) hb);have n2_:=zm_ (hbox);have n3_:=zm_ ((by rw [hg];exact (below_size (by repeat (first|(with_reducible first|exact HB.out|apply za_|apply zn_|apply zd_|refine zs_ ?_ GE350.out)|exact HB.out))) : w.heap.size ≤ gb351));have n4_:=zm_ ((by rw [hg];exact (below_size (by repeat (first|(with_reducible first|exact HB.out|apply za_|apply zn_|apply zd_|refine zs_ ?_ GE350.out)|exact HB.out))) : w.heap.size ≤ gb351));have n5_:=zm_ ((by rw [hg];exact Nat.ne_of_lt (blk_lt (g:=gb350) (o:=.cells #[.int .i64 a0_0,.int .i64 a0_1,.slice A0_2 l0_2.length c0_2,.int .i64 a0_3,.int .i64 a0_4,.slice A0_5 l0_5.length c0_5] 47 (0,0)) (by (with_reducible repeat first|refine zl_ ?_ _|refine zr_ ?_|refine zk_ ?_ _);exact BK350.out)) : gb350 ≠ gb351));have n6_:=zm_ ((by rw [hg];exact Nat.ne_of_gt (blk_lt (g:=gb350) (o:=.cells #[.int .i64 a0_0,.int .i64 a0_1,.slice A0_2 l0_2.length c0_2,.int .i64 a0_3,.int .i64 a0_4,.slice A0_5 l0_5.length c0_5] 47 (0,0)) (by (with_reducible repeat first|refine zl_ ?_ _|refine zr_ ?_|refine zk_ ?_ _);exact BK350.out)) : gb351 ≠ gb350));clear BK350;clear HB;have BK350:=n0_;have HB:=n1_;have BK351:=n2_;have GW351:=n3_;have GE351:=n4_;have NB350_351:=n5_;have NB351_350:=n6_;clear n0_ n1_ n2_ n3_ n4_ n5_ n6_;clear hb hbox hg;have hnb38:=NB350_351.out;have hnc38:=NB351_350.out;have hcz39_0 : w37.cell? ⟨gb350,0,none⟩ = some (.int .i64 a0_0):=(zc_ BK350.out 0).trans rfl;have hcz39_1 : w37.cell? ⟨gb350,1,none⟩ = some (.int .i64 a0_1):=(zc_ BK350.out 1).trans rfl;have hcz39_2 : w37.cell? ⟨gb350,2,none⟩ = some (.slice A0_2 l0_2.length c0_2):=(zc_ BK350.out 2).trans rfl;have hcz39_3 : w37.cell? ⟨gb350,3,none⟩ = some (.int .i64 a0_3):=(zc_ BK350.out 3).trans rfl;have hcz39_4 : w37.cell? ⟨gb350,4,none⟩ = some (.int .i64 a0_4):=(zc_ BK350.out 4).trans rfl;have hcz39_5 : w37.cell? ⟨gb350,5,none⟩ = some (.slice A0_5 l0_5.length c0_5):=(zc_ BK350.out 5).trans rfl;have hfz39_0:=zf_ BK350.out 0;have hfz39_1:=zf_ BK350.out 1;have hfz39_2:=zf_ BK350.out 2;have hfz39_3:=zf_ BK350.out 3;have hfz39_4:=zf_ BK350.out 4;have hfz39_5:=zf_ BK350.out 5;have hcz40_0 : w37.cell? ⟨gb351,0,none⟩ = some (.int .i64 a1_0):=(zc_ BK351.out 0).trans rfl;have hcz40_1 : w37.cell? ⟨gb351,1,none⟩ = some (.int .i64 a1_1):=(zc_ BK351.out 1).trans rfl;have hcz40_2 : w37.cell? ⟨gb351,2,none⟩ = some (.slice A1_2 l1_2.length c1_2):=(zc_ BK351.out 2).trans rfl;have hcz40_3 : w37.cell? ⟨gb351,3,none⟩ = some (.int .i64 a1_3):=(zc_ BK351.out 3).trans rfl;have hcz40_4 : w37.cell? ⟨gb351,4,none⟩ = some (.int .i64 a1_4):=(zc_ BK351.out 4).trans rfl;have hcz40_5 : w37.cell? ⟨gb351,5,none⟩ = some (.slice A1_5 l1_5.length c1_5):=(zc_ BK351.out 5).trans rfl;have hfz40_0:=zf_ BK351.out 0;have hfz40_1:=zf_ BK351.out 1;have hfz40_2:=zf_ BK351.out 2;have hfz40_3:=zf_ BK351.out 3;have hfz40_4:=zf_ BK351.out 4;have hfz40_5:=zf_ BK351.out 5))
   go_ret
   exact ⟨zE_,by repeat (first|(with_reducible first|exact HB.out|apply za_|apply zn_|apply zd_|refine zs_ ?_ GE350.out|refine zs_ ?_ GE351.out)|exact HB.out)⟩
 ·rw [if_neg c3] at H
  have c3b0 : (a0_0 == a1_0) = false:=beq_eq_false_iff_ne.mpr c3
  have c3b1 : (a0_0 != a1_0) = true:=bne_iff_ne.mpr c3
  obtain rfl:=Option.some.inj H
  go_enter Try.func31,Try.ntmps31
  go_wp2_with (first|((with_reducible refine gate_dst (N:=2) rfl ?_);refine box_event ?hg (N:=2) ?hd (cs:=#[.int .i64 a0_0,.int .i64 a0_1,.slice A0_2 l0_2.length c0_2,.int .i64 a0_3,.int .i64 a0_4,.slice A0_5 l0_5.length c0_5]) (t:=47) ?hr ?_;(case hd => rfl);(case hg => rfl);(case hr => first|(go_simp;done)|(go_simp;rfl));intro gb350 hg w41 hbox hb;have n0_:=zm_ (below_step zB_ hb);have n1_:=zm_ (hbox);have n2_:=zm_ ((by rw [hg];exact (below_size zB_) : w.heap.size ≤ gb350));have n3_:=zm_ ((by rw [hg];exact (below_size zB_) : w.heap.size ≤ gb350));clear HB;have HB:=n0_;have BK350:=n1_;have GW350:=n2_;have GE350:=n3_;clear n0_ n1_ n2_ n3_;clear hb hbox hg)|((with_reducible refine gate_dst (N:=3) rfl ?_);refine box_event ?hg (N:=3) ?hd (cs:=#[.int .i64 a1_0,.int .i64 a1_1,.slice A1_2 l1_2.length c1_2,.int .i64 a1_3,.int .i64 a1_4,.slice A1_5 l1_5.length c1_5]) (t:=47) ?hr ?_;(case hd => rfl);(case hg => rfl);(case hr => first|(go_simp;done)|(go_simp;rfl));intro gb351 hg w42 hbox hb;have n0_:=zm_ (blk_below (g:=gb350) (o:=.cells #[.int .i64 a0_0,.int .i64 a0_1,.slice A0_2 l0_2.length c0_2,.int .i64 a0_3,.int .i64 a0_4,.slice A0_5 l0_5.length c0_5] 47 (0,0)) (by (with_reducible repeat first|refine zl_ ?_ _|refine zr_ ?_|refine zk_ ?_ _);exact BK350.out) hb);have n1_:=zm_ (below_step (by repeat (first|(with_reducible first|exact HB.out|apply za_|apply zn_|apply zd_|refine zs_ ?_ GE350.out)|exact HB.out)) hb);have n2_:=zm_ (hbox);have n3_:=zm_ ((by rw [hg];exact (below_size (by repeat (first|(with_reducible first|exact HB.out|apply za_|apply zn_|apply zd_|refine zs_ ?_ GE350.out)|exact HB.out))) : w.heap.size ≤ gb351));have n4_:=zm_ ((by rw [hg];exact (below_size (by repeat (first|(with_reducible first|exact HB.out|apply za_|apply zn_|apply zd_|refine zs_ ?_ GE350.out)|exact HB.out))) : w.heap.size ≤ gb351));have n5_:=zm_ ((by rw [hg];exact Nat.ne_of_lt (blk_lt (g:=gb350) (o:=.cells #[.int .i64 a0_0,.int .i64 a0_1,.slice A0_2 l0_2.length c0_2,.int .i64 a0_3,.int .i64 a0_4,.slice A0_5 l0_5.length c0_5] 47 (0,0)) (by (with_reducible repeat first|refine zl_ ?_ _|refine zr_ ?_|refine zk_ ?_ _);exact BK350.out)) : gb350 ≠ gb351));have n6_:=zm_ ((by rw [hg];exact Nat.ne_of_gt (blk_lt (g:=gb350) (o:=.cells #[.int .i64 a0_0,.int .i64 a0_1,.slice A0_2 l0_2.length c0_2,.int .i64 a0_3,.int .i64 a0_4,.slice A0_5 l0_5.length c0_5] 47 (0,0)) (by (with_reducible repeat first|refine zl_ ?_ _|refine zr_ ?_|refine zk_ ?_ _);exact BK350.out)) : gb351 ≠ gb350));clear BK350;clear HB;have BK350:=n0_;have HB:=n1_;have BK351:=n2_;have GW351:=n3_;have GE351:=n4_;have NB350_351:=n5_;have NB351_350:=n6_;clear n0_ n1_ n2_ n3_ n4_ n5_ n6_;clear hb hbox hg;have hnb43:=NB350_351.out;have hnc43:=NB351_350.out;have hcz44_0 : w42.cell? ⟨gb350,0,none⟩ = some (.int .i64 a0_0):=(zc_ BK350.out 0).trans rfl;have hcz44_1 : w42.cell? ⟨gb350,1,none⟩ = some (.int .i64 a0_1):=(zc_ BK350.out 1).trans rfl;have hcz44_2 : w42.cell? ⟨gb350,2,none⟩ = some (.slice A0_2 l0_2.length c0_2):=(zc_ BK350.out 2).trans rfl;have hcz44_3 : w42.cell? ⟨gb350,3,none⟩ = some (.int .i64 a0_3):=(zc_ BK350.out 3).trans rfl;have hcz44_4 : w42.cell? ⟨gb350,4,none⟩ = some (.int .i64 a0_4):=(zc_ BK350.out 4).trans rfl;have hcz44_5 : w42.cell? ⟨gb350,5,none⟩ = some (.slice A0_5 l0_5.length c0_5):=(zc_ BK350.out 5).trans rfl;have hfz44_0:=zf_ BK350.out 0;have hfz44_1:=zf_ BK350.out 1;have hfz44_2:=zf_ BK350.out 2;have hfz44_3:=zf_ BK350.out 3;have hfz44_4:=zf_ BK350.out 4;have hfz44_5:=zf_ BK350.out 5;have hcz45_0 : w42.cell? ⟨gb351,0,none⟩ = some (.int .i64 a1_0):=(zc_ BK351.out 0).trans rfl;have hcz45_1 : w42.cell? ⟨gb351,1,none⟩ = some (.int .i64 a1_1):=(zc_ BK351.out 1).trans rfl;have hcz45_2 : w42.cell? ⟨gb351,2,none⟩ = some (.slice A1_2 l1_2.length c1_2):=(zc_ BK351.out 2).trans rfl;have hcz45_3 : w42.cell? ⟨gb351,3,none⟩ = some (.int .i64 a1_3):=(zc_ BK351.out 3).trans rfl;have hcz45_4 : w42.cell? ⟨gb351,4,none⟩ = some (.int .i64 a1_4):=(zc_ BK351.out 4).trans rfl;have hcz45_5 : w42.cell? ⟨gb351,5,none⟩ = some (.slice A1_5 l1_5.length c1_5):=(zc_ BK351.out 5).trans rfl;have hfz45_0:=zf_ BK351.out 0;have hfz45_1:=zf_ BK351.out 1;have hfz45_2:=zf_ BK351.out 2;have hfz45_3:=zf_ BK351.out 3;have hfz45_4:=zf_ BK351.out 4;have hfz45_5:=zf_ BK351.out 5))
  go_ret
  exact ⟨zE_,by repeat (first|(with_reducible first|exact HB.out|apply za_|apply zn_|apply zd_|refine zs_ ?_ GE350.out|refine zs_ ?_ GE351.out)|exact HB.out)⟩

end Go.Proofs.Ytkbgmojomgelbaa.MFnExactTreeText
