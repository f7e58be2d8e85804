import Derived.Test.YtnmhggdaccbbfaaMFnExactEvalExprx0
import Derived.Test.YtnmhggdaccbbfaaMFnExactEvalExprx1
import Derived.Test.YtnmhggdaccbbfaaMFnExactEvalExprx2
namespace Go.Proofs.Ytnmhggdaccbbfaa.MFnExactEvalExpr
open Go.RowKit Go.Proofs.YtnmhggdaccbbfaaW.PrintWords Go.Proofs.YtnmhggdaccbbfaaW.PrintLast Go.Proofs.YtnmhggdaccbbfaaW.PrintMore
attribute [local go_sem] max2_int min2_int max_two min_two max_three min_three max_four min_four
set_option linter.unusedVariables false
set_option linter.unusedSimpArgs false

def impl_evalNode.f (k : Nat) (a0_0 : Int) (a0_1 : Int) (a0_2 : ByteArray) (l0_3 : List Int) (l1 : List Int) (l2 : List (S87)) (a3 : Int) : Option (Int × Bool):=if a0_0 = 1 then (some (a0_1,true)) else (if a0_0 = 2 then ((impl_EnvGet.f k l2 a0_2).bind fun bt142 => (some (bt142.1,bt142.2))) else (if a0_0 = 3 then (some (a3,true)) else (if 0 < (l0_3.length : Int) then (if 0 ≤ (rd l0_3 0) then (if (rd l0_3 0) < (l1.length : Int) then (if 0 ≤ (wrap64 ((l0_3.length : Int) - 1)) then (if (wrap64 ((l0_3.length : Int) - 1)) < (l0_3.length : Int) then (if 0 ≤ (rd l0_3 (wrap64 ((l0_3.length : Int) - 1))) then (if (rd l0_3 (wrap64 ((l0_3.length : Int) - 1))) < (l1.length : Int) then ((impl_reckon.f a0_0 (rd l1 (rd l0_3 0)) (rd l1 (rd l0_3 (wrap64 ((l0_3.length : Int) - 1))))).bind fun bt148 => (some (bt148.1,bt148.2))) else (none)) else (none)) else (none)) else (none)) else (none)) else (none)) else (none))))
theorem impl_evalNode.mono : ∀ a0 a1 a2 a3 a4 a5 a6 k,LeO (impl_evalNode.f k a0 a1 a2 a3 a4 a5 a6) (impl_evalNode.f (k + 1) a0 a1 a2 a3 a4 a5 a6):=by
 intro a0 a1 a2 a3 a4 a5 a6 k
 unfold impl_evalNode.f
 repeat' first
   |(with_reducible exact impl_EnvGet.mono _ _ _)
   |(with_reducible exact LeO.refl _)
   |(with_reducible exact LeO.none _)
   |(with_reducible refine LeO.ite ?_ ?_)
   |(with_reducible refine LeO.bind ?_ (fun _ => ?_))
set_option maxHeartbeats 8000000 in
set_option maxRecDepth 100000 in
theorem impl_evalNode.calls (k : Nat) (a0_0 : Int) (a0_1 : Int) (a0_2 : ByteArray) (A0_3 : Option Addr) (c0_3 : Nat) (l0_3 : List Int) (A1 : Option Addr) (c1 : Nat) (l1 : List Int) (A2 : Option Addr) (c2 : Nat) (l2 : List (S87)) (a3 : Int) (r1 : Int) (r2 : Bool) (w : World) (hr0_3 : Kd.C (Kd.int .i64) w A0_3 l0_3.length l0_3) (hc0_3 : l0_3.length ≤ c0_3) (hr1 : Kd.C (Kd.int .i64) w A1 l1.length l1) (hc1 : l1.length ≤ c1) (hr2 : Kd.C k87 w A2 l2.length l2) (hc2 : l2.length ≤ c2) (h : impl_evalNode.f k a0_0 a0_1 a0_2 l0_3 l1 l2 a3 = some (r1,r2)) :
  Calls Try.prog 45 #[.agg #[.int .i64 a0_0,.int .i64 a0_1,.string a0_2,.slice A0_3 l0_3.length c0_3],.slice A1 l1.length c1,.slice A2 l2.length c2,.int .i64 a3] w fun e w' => e = .returned (.tuple #[.int .i64 r1,.bool r2]) ∧ Below w.heap.size w w':=by
 have hu34:=Try.underlying34
 have HR0_3:=zm_ hr0_3
 have HC0_3:=zm_ hc0_3
 clear hr0_3 hc0_3
 have HR1:=zm_ hr1
 have HC1:=zm_ hc1
 clear hr1 hc1
 have HR2:=zm_ hr2
 have HC2:=zm_ hc2
 clear hr2 hc2
 have HB:=zm_ (Below.refl w.heap.size w)
 have H : (if a0_0 = 1 then (some (a0_1,true)) else (if a0_0 = 2 then ((impl_EnvGet.f k l2 a0_2).bind fun bt142 => (some (bt142.1,bt142.2))) else (if a0_0 = 3 then (some (a3,true)) else (if 0 < (l0_3.length : Int) then (if 0 ≤ (rd l0_3 0) then (if (rd l0_3 0) < (l1.length : Int) then (if 0 ≤ (wrap64 ((l0_3.length : Int) - 1)) then (if (wrap64 ((l0_3.length : Int) - 1)) < (l0_3.length : Int) then (if 0 ≤ (rd l0_3 (wrap64 ((l0_3.length : Int) - 1))) then (if (rd l0_3 (wrap64 ((l0_3.length : Int) - 1))) < (l1.length : Int) then ((impl_reckon.f a0_0 (rd l1 (rd l0_3 0)) (rd l1 (rd l0_3 (wrap64 ((l0_3.length : Int) - 1))))).bind fun bt148 => (some (bt148.1,bt148.2))) else (none)) else (none)) else (none)) else (none)) else (none)) else (none)) else (none))))) = some (r1,r2):=h
 clear h
 by_cases c5 : a0_0 = 1
 ·rw [if_pos c5] at H
  have c5b0 : (a0_0 == 1) = true:=beq_iff_eq.mpr c5
  have c5b1 : (a0_0 != 1) = false:=bne_eq_false_iff_eq.mpr c5
  clear c5
  simp only [Option.some.injEq,Prod.mk.injEq] at H
  obtain ⟨rfl,rfl⟩:=H
  go_enter Try.func45,Try.ntmps45
  have tk_ : True:=trivial
  repeat ((first|go_quiet (fail)|clear tk_);try go_wp2_with (first|((with_reducible refine gate_dst (N:=4) rfl ?_);refine box_event ?hg (N:=4) ?hd (cs:=#[.int .i64 a0_0,.int .i64 a0_1,.string a0_2,.slice A0_3 l0_3.length c0_3]) (t:=34) ?hr ?_;(case hd => rfl);(case hg => rfl);(case hr => first|(go_simp;done)|(go_simp;rfl));intro gb141 hg w6 hbox hb;have n0_:=zm_ (below_step (by repeat (first|(with_reducible first|exact HB.out|apply za_|apply zn_|apply zd_)|exact HB.out)) hb);have n1_:=zm_ (hbox);have n2_:=zm_ ((by rw [hg];exact (below_size (by repeat (first|(with_reducible first|exact HB.out|apply za_|apply zn_|apply zd_)|exact HB.out))) : w.heap.size ≤ gb141));have n3_:=zm_ ((by rw [hg];exact (below_size (by repeat (first|(with_reducible first|exact HB.out|apply za_|apply zn_|apply zd_)|exact HB.out))) : w.heap.size ≤ gb141));clear HB;have HB:=n0_;have BK141:=n1_;have GW141:=n2_;have GE141:=n3_;clear n0_ n1_ n2_ n3_;clear hb hbox hg;have hcz7_0 : w6.cell? ⟨gb141,0,none⟩ = some (.int .i64 a0_0):=(zc_ BK141.out 0).trans rfl;have hcz7_1 : w6.cell? ⟨gb141,1,none⟩ = some (.int .i64 a0_1):=(zc_ BK141.out 1).trans rfl;have hcz7_2 : w6.cell? ⟨gb141,2,none⟩ = some (.string a0_2):=(zc_ BK141.out 2).trans rfl;have hcz7_3 : w6.cell? ⟨gb141,3,none⟩ = some (.slice A0_3 l0_3.length c0_3):=(zc_ BK141.out 3).trans rfl;have hfz7_0:=zf_ BK141.out 0;have hfz7_1:=zf_ BK141.out 1;have hfz7_2:=zf_ BK141.out 2;have hfz7_3:=zf_ BK141.out 3)))
  go_ret2
  exact ⟨by first|rfl|(simp [errW_none,errW_some] <;> rfl)|(simp [*,errW_none,errW_some] <;> rfl),by repeat (first|(with_reducible first|exact HB.out|apply za_|apply zn_|apply zd_|refine zs_ ?_ GE141.out)|exact HB.out)⟩
 ·rw [if_neg c5] at H
  have c5b0 : (a0_0 == 1) = false:=beq_eq_false_iff_ne.mpr c5
  have c5b1 : (a0_0 != 1) = true:=bne_iff_ne.mpr c5
  by_cases c8 : a0_0 = 2
  ·rw [if_pos c8] at H
   have c8b0 : (a0_0 == 2) = true:=beq_iff_eq.mpr c8
   have c8b1 : (a0_0 != 2) = false:=bne_eq_false_iff_eq.mpr c8
   clear c8
   replace H:=Option.bind_eq_some_iff.mp H
   obtain ⟨⟨t142,t143⟩,A90,H⟩:=H
   replace H : (some (t142,t143)) = some (r1,r2):=H
   have A9:=zm_ A90
   clear A90
   simp only [Option.some.injEq,Prod.mk.injEq] at H
   obtain ⟨rfl,rfl⟩:=H
   go_enter Try.func45,Try.ntmps45
   have tk_ : True:=trivial
   repeat ((first|go_quiet (first|(go_at_call 75;(with_reducible refine (impl_EnvGet.calls k _ _ l2 a0_2 t142 t143 _ ?side1 ?side2 A9.out).mono ?_);(case side1 => repeat (first|exact (Kd.C_below HR2.out HB.out)|(with_reducible refine Kd.C_alloc ?_ _)|(with_reducible refine Kd.C_drewN ?_ _)|(with_reducible refine Kd.C_drew ?_)));(case side2 => exact HC2.out);rintro e w12 ⟨rfl,hb⟩;have n0_:=zm_ (blk_below (g:=gb141) (o:=.cells #[.int .i64 a0_0,.int .i64 a0_1,.string a0_2,.slice A0_3 l0_3.length c0_3] 34 (0,0)) (by (with_reducible repeat first|refine zl_ ?_ _|refine zr_ ?_|refine zk_ ?_ _);exact BK141.out) hb);have n1_:=zm_ (below_step (by repeat (first|(with_reducible first|exact HB.out|apply za_|apply zn_|apply zd_|refine zs_ ?_ GE141.out)|exact HB.out)) hb);clear BK141;clear HB;have BK141:=n0_;have HB:=n1_;clear n0_ n1_;(try clear hb);(try clear hb2);(try clear hk);(try clear hi)))|clear tk_);try go_wp2_with (first|((with_reducible refine gate_dst (N:=4) rfl ?_);refine box_event ?hg (N:=4) ?hd (cs:=#[.int .i64 a0_0,.int .i64 a0_1,.string a0_2,.slice A0_3 l0_3.length c0_3]) (t:=34) ?hr ?_;(case hd => rfl);(case hg => rfl);(case hr => first|(go_simp;done)|(go_simp;rfl));intro gb141 hg w10 hbox hb;have n0_:=zm_ (below_step (by repeat (first|(with_reducible first|exact HB.out|apply za_|apply zn_|apply zd_)|exact HB.out)) hb);have n1_:=zm_ (hbox);have n2_:=zm_ ((by rw [hg];exact (below_size (by repeat (first|(with_reducible first|exact HB.out|apply za_|apply zn_|apply zd_)|exact HB.out))) : w.heap.size ≤ gb141));have n3_:=zm_ ((by rw [hg];exact (below_size (by repeat (first|(with_reducible first|exact HB.out|apply za_|apply zn_|apply zd_)|exact HB.out))) : w.heap.size ≤ gb141));clear HB;have HB:=n0_;have BK141:=n1_;have GW141:=n2_;have GE141:=n3_;clear n0_ n1_ n2_ n3_;clear hb hbox hg;have hcz11_0 : w10.cell? ⟨gb141,0,none⟩ = some (.int .i64 a0_0):=(zc_ BK141.out 0).trans rfl;have hcz11_1 : w10.cell? ⟨gb141,1,none⟩ = some (.int .i64 a0_1):=(zc_ BK141.out 1).trans rfl;have hcz11_2 : w10.cell? ⟨gb141,2,none⟩ = some (.string a0_2):=(zc_ BK141.out 2).trans rfl;have hcz11_3 : w10.cell? ⟨gb141,3,none⟩ = some (.slice A0_3 l0_3.length c0_3):=(zc_ BK141.out 3).trans rfl;have hfz11_0:=zf_ BK141.out 0;have hfz11_1:=zf_ BK141.out 1;have hfz11_2:=zf_ BK141.out 2;have hfz11_3:=zf_ BK141.out 3)|(go_at_call 75;(with_reducible refine (impl_EnvGet.calls k _ _ l2 a0_2 t142 t143 _ ?side1 ?side2 A9.out).mono ?_);(case side1 => repeat (first|exact (Kd.C_below HR2.out HB.out)|(with_reducible refine Kd.C_alloc ?_ _)|(with_reducible refine Kd.C_drewN ?_ _)|(with_reducible refine Kd.C_drew ?_)));(case side2 => exact HC2.out);rintro e w12 ⟨rfl,hb⟩;have n0_:=zm_ (blk_below (g:=gb141) (o:=.cells #[.int .i64 a0_0,.int .i64 a0_1,.string a0_2,.slice A0_3 l0_3.length c0_3] 34 (0,0)) (by (with_reducible repeat first|refine zl_ ?_ _|refine zr_ ?_|refine zk_ ?_ _);exact BK141.out) hb);have n1_:=zm_ (below_step (by repeat (first|(with_reducible first|exact HB.out|apply za_|apply zn_|apply zd_|refine zs_ ?_ GE141.out)|exact HB.out)) hb);clear BK141;clear HB;have BK141:=n0_;have HB:=n1_;clear n0_ n1_;(try clear hb);(try clear hb2);(try clear hk);(try clear hi))))
   go_ret2
   exact ⟨by first|rfl|(simp [errW_none,errW_some] <;> rfl)|(simp [*,errW_none,errW_some] <;> rfl),by repeat (first|(with_reducible first|exact HB.out|apply za_|apply zn_|apply zd_|refine zs_ ?_ GE141.out)|exact HB.out)⟩
  ·rw [if_neg c8] at H
   have c8b0 : (a0_0 == 2) = false:=beq_eq_false_iff_ne.mpr c8
   have c8b1 : (a0_0 != 2) = true:=bne_iff_ne.mpr c8
   by_cases c13 : a0_0 = 3
   ·rw [if_pos c13] at H
    have c13b0 : (a0_0 == 3) = true:=beq_iff_eq.mpr c13
    have c13b1 : (a0_0 != 3) = false:=bne_eq_false_iff_eq.mpr c13
    clear c13
    simp only [Option.some.injEq,Prod.mk.injEq] at H
    obtain ⟨rfl,rfl⟩:=H
    go_enter Try.func45,Try.ntmps45
    have tk_ : True:=trivial
    repeat ((first|go_quiet (fail)|clear tk_);try go_wp2_with (first|((with_reducible refine gate_dst (N:=4) rfl ?_);refine box_event ?hg (N:=4) ?hd (cs:=#[.int .i64 a0_0,.int .i64 a0_1,.string a0_2,.slice A0_3 l0_3.length c0_3]) (t:=34) ?hr ?_;(case hd => rfl);(case hg => rfl);(case hr => first|(go_simp;done)|(go_simp;rfl));intro gb141 hg w14 hbox hb;have n0_:=zm_ (below_step (by repeat (first|(with_reducible first|exact HB.out|apply za_|apply zn_|apply zd_)|exact HB.out)) hb);have n1_:=zm_ (hbox);have n2_:=zm_ ((by rw [hg];exact (below_size (by repeat (first|(with_reducible first|exact HB.out|apply za_|apply zn_|apply zd_)|exact HB.out))) : w.heap.size ≤ gb141));have n3_:=zm_ ((by rw [hg];exact (below_size (by repeat (first|(with_reducible first|exact HB.out|apply za_|apply zn_|apply zd_)|exact HB.out))) : w.heap.size ≤ gb141));clear HB;have HB:=n0_;have BK141:=n1_;have GW141:=n2_;have GE141:=n3_;clear n0_ n1_ n2_ n3_;clear hb hbox hg;have hcz15_0 : w14.cell? ⟨gb141,0,none⟩ = some (.int .i64 a0_0):=(zc_ BK141.out 0).trans rfl;have hcz15_1 : w14.cell? ⟨gb141,1,none⟩ = some (.int .i64 a0_1):=(zc_ BK141.out 1).trans rfl;have hcz15_2 : w14.cell? ⟨gb141,2,none⟩ = some (.string a0_2):=(zc_ BK141.out 2).trans rfl;have hcz15_3 : w14.cell? ⟨gb141,3,none⟩ = some (.slice A0_3 l0_3.length c0_3):=(zc_ BK141.out 3).trans rfl;have hfz15_0:=zf_ BK141.out 0;have hfz15_1:=zf_ BK141.out 1;have hfz15_2:=zf_ BK141.out 2;have hfz15_3:=zf_ BK141.out 3)))
    go_ret2
    exact ⟨by first|rfl|(simp [errW_none,errW_some] <;> rfl)|(simp [*,errW_none,errW_some] <;> rfl),by repeat (first|(with_reducible first|exact HB.out|apply za_|apply zn_|apply zd_|refine zs_ ?_ GE141.out)|exact HB.out)⟩
   ·rw [if_neg c13] at H
    have c13b0 : (a0_0 == 3) = false:=beq_eq_false_iff_ne.mpr c13
    have c13b1 : (a0_0 != 3) = true:=bne_iff_ne.mpr c13
    by_cases c16 : 0 < (l0_3.length : Int)
    ·rw [if_pos c16] at H
     have c16b0 : decide (0 < (l0_3.length : Int)) = true:=decide_eq_true c16
     have c16b1 : decide (0 < l0_3.length) = true:=decide_eq_true (by omega)
     clear c16
     by_cases c17 : 0 ≤ (rd l0_3 0)
     ·rw [if_pos c17] at H
      have c17b0 : decide (0 ≤ (rd l0_3 0)) = true:=decide_eq_true c17
      clear c17
      by_cases c18 : (rd l0_3 0) < (l1.length : Int)
      ·rw [if_pos c18] at H
       have c18b0 : decide ((rd l0_3 0) < (l1.length : Int)) = true:=decide_eq_true c18
       clear c18
       obtain ⟨ji19,hji19⟩ : ∃ j_ : Int,(wrap64 ((l0_3.length : Int) - 1)) = j_:=⟨_,rfl⟩
       replace H : (if 0 ≤ (ji19) then (if (ji19) < (l0_3.length : Int) then (if 0 ≤ (rd l0_3 (ji19)) then (if (rd l0_3 (ji19)) < (l1.length : Int) then ((impl_reckon.f a0_0 (rd l1 (rd l0_3 0)) (rd l1 (rd l0_3 (ji19)))).bind fun bt148 => (some (bt148.1,bt148.2))) else (none)) else (none)) else (none)) else (none)) = some (r1,r2):=by first|(rw [hji19] at H;exact H)|(simp only [hji19] at H ⊢;exact H)
       have hji19w : (IntKind.i64.wrap ((l0_3.length : Int) - 1)) = ji19:=(i64_w _).trans hji19
       by_cases c20 : 0 ≤ (ji19)
       ·rw [if_pos c20] at H
        have c20b0 : decide (0 ≤ (ji19)) = true:=decide_eq_true c20
        clear c20
        by_cases c21 : (ji19) < (l0_3.length : Int)
        ·rw [if_pos c21] at H
         have c21b0 : decide ((ji19) < (l0_3.length : Int)) = true:=decide_eq_true c21
         clear c21
         by_cases c22 : 0 ≤ (rd l0_3 (ji19))
         ·rw [if_pos c22] at H
          have c22b0 : decide (0 ≤ (rd l0_3 (ji19))) = true:=decide_eq_true c22
          clear c22
          by_cases c23 : (rd l0_3 (ji19)) < (l1.length : Int)
          ·rw [if_pos c23] at H
           have c23b0 : decide ((rd l0_3 (ji19)) < (l1.length : Int)) = true:=decide_eq_true c23
           clear c23
           replace H:=Option.bind_eq_some_iff.mp H
           obtain ⟨⟨t148,t149⟩,A240,H⟩:=H
           replace H : (some (t148,t149)) = some (r1,r2):=H
           have A24:=zm_ A240
           clear A240
           simp only [Option.some.injEq,Prod.mk.injEq] at H
           obtain ⟨rfl,rfl⟩:=H
           go_enter Try.func45,Try.ntmps45
           have tk_ : True:=trivial
           repeat ((first|go_quiet (first|(go_at_call 76;(with_reducible refine (impl_reckon.calls a0_0 (rd l1 (rd l0_3 0)) (rd l1 (rd l0_3 (ji19))) t148 t149 _ A24.out).mono ?_);rintro e w' ⟨rfl,⟨nd,rfl⟩⟩;(try first|exact ⟨rfl,_,zw_ _ _ _⟩|exact ⟨rfl,_,Eq.trans (zw_ _ _ _) (congrArg (World.drewN _) (Nat.add_assoc _ _ _))⟩)))|clear tk_);try go_wp2_with (first|((with_reducible refine gate_dst (N:=4) rfl ?_);refine box_event ?hg (N:=4) ?hd (cs:=#[.int .i64 a0_0,.int .i64 a0_1,.string a0_2,.slice A0_3 l0_3.length c0_3]) (t:=34) ?hr ?_;(case hd => rfl);(case hg => rfl);(case hr => first|(go_simp;done)|(go_simp;rfl));intro gb141 hg w25 hbox hb;have n0_:=zm_ (below_step (by repeat (first|(with_reducible first|exact HB.out|apply za_|apply zn_|apply zd_)|exact HB.out)) hb);have n1_:=zm_ (hbox);have n2_:=zm_ ((by rw [hg];exact (below_size (by repeat (first|(with_reducible first|exact HB.out|apply za_|apply zn_|apply zd_)|exact HB.out))) : w.heap.size ≤ gb141));have n3_:=zm_ ((by rw [hg];exact (below_size (by repeat (first|(with_reducible first|exact HB.out|apply za_|apply zn_|apply zd_)|exact HB.out))) : w.heap.size ≤ gb141));clear HB;have HB:=n0_;have BK141:=n1_;have GW141:=n2_;have GE141:=n3_;clear n0_ n1_ n2_ n3_;clear hb hbox hg;have hcz26_0 : w25.cell? ⟨gb141,0,none⟩ = some (.int .i64 a0_0):=(zc_ BK141.out 0).trans rfl;have hcz26_1 : w25.cell? ⟨gb141,1,none⟩ = some (.int .i64 a0_1):=(zc_ BK141.out 1).trans rfl;have hcz26_2 : w25.cell? ⟨gb141,2,none⟩ = some (.string a0_2):=(zc_ BK141.out 2).trans rfl;have hcz26_3 : w25.cell? ⟨gb141,3,none⟩ = some (.slice A0_3 l0_3.length c0_3):=(zc_ BK141.out 3).trans rfl;have hfz26_0:=zf_ BK141.out 0;have hfz26_1:=zf_ BK141.out 1;have hfz26_2:=zf_ BK141.out 2;have hfz26_3:=zf_ BK141.out 3;have p144 : 0 ≤ (0 : Int):=(by omega);have q144 : 0 < (l0_3.length : Int):=zo_;obtain ⟨ad144,e144,hx144_0⟩:=Kd.at_int HR0_3.out 0 p144 q144;cases e144;have qi144 : (0 < l0_3.length) = True:=eq_true (by omega);(try rw [show ((0 : Int)).toNat = 0 from rfl] at hx144_0);(try rw [Addr.add_zero'] at hx144_0);replace hx144_0:=(HB.out.cell (zb_ w _ hx144_0)).trans hx144_0;replace p144:=eq_true p144;replace q144:=eq_true q144;have p145 : 0 ≤ ((rd l0_3 0) : Int):=zo_;have q145 : (rd l0_3 0) < (l1.length : Int):=zo_;obtain ⟨ad145,e145,hx145_0⟩:=Kd.at_int HR1.out (rd l0_3 0) p145 q145;cases e145;replace hx145_0:=(HB.out.cell (zb_ w _ hx145_0)).trans hx145_0;replace p145:=eq_true p145;replace q145:=eq_true q145;have p146 : 0 ≤ ((ji19) : Int):=zo_;have q146 : (ji19) < (l0_3.length : Int):=zo_;obtain ⟨ad146,e146,hx146_0⟩:=Kd.at_int HR0_3.out (ji19) p146 q146;obtain rfl : ad144 = ad146:=(by injection e146);replace hx146_0:=(HB.out.cell (zb_ w _ hx146_0)).trans hx146_0;replace p146:=eq_true p146;replace q146:=eq_true q146;have p147 : 0 ≤ ((rd l0_3 (ji19)) : Int):=zo_;have q147 : (rd l0_3 (ji19)) < (l1.length : Int):=zo_;obtain ⟨ad147,e147,hx147_0⟩:=Kd.at_int HR1.out (rd l0_3 (ji19)) p147 q147;obtain rfl : ad145 = ad147:=(by injection e147);replace hx147_0:=(HB.out.cell (zb_ w _ hx147_0)).trans hx147_0;replace p147:=eq_true p147;replace q147:=eq_true q147)|(go_at_call 76;(with_reducible refine (impl_reckon.calls a0_0 (rd l1 (rd l0_3 0)) (rd l1 (rd l0_3 (ji19))) t148 t149 _ A24.out).mono ?_);rintro e w' ⟨rfl,⟨nd,rfl⟩⟩;(try first|exact ⟨rfl,_,zw_ _ _ _⟩|exact ⟨rfl,_,Eq.trans (zw_ _ _ _) (congrArg (World.drewN _) (Nat.add_assoc _ _ _))⟩))))
           go_ret2
           exact ⟨by first|rfl|(simp [errW_none,errW_some] <;> rfl)|(simp only [← hji19];first|rfl|(simp [errW_none,errW_some] <;> rfl))|(simp [*,errW_none,errW_some] <;> rfl),by repeat (first|(with_reducible first|exact HB.out|apply za_|apply zn_|apply zd_|refine zs_ ?_ GE141.out)|exact HB.out)⟩
          ·rw [if_neg c23] at H
           exact absurd H (by simp)
         ·rw [if_neg c22] at H
          exact absurd H (by simp)
        ·rw [if_neg c21] at H
         exact absurd H (by simp)
       ·rw [if_neg c20] at H
        exact absurd H (by simp)
      ·rw [if_neg c18] at H
       exact absurd H (by simp)
     ·rw [if_neg c17] at H
      exact absurd H (by simp)
    ·rw [if_neg c16] at H
     exact absurd H (by simp)

def impl_isNum.f (a0 : Int) : Option (Bool):=(impl_within.f a0 (-9999) 9999).bind fun t150 => (some t150)
set_option maxHeartbeats 8000000 in
set_option maxRecDepth 100000 in
theorem impl_isNum.calls (a0 : Int) (r : Bool) (w : World) (h : impl_isNum.f a0 = some r) :
  Calls Try.prog 46 #[.int .i64 a0] w fun e w' => e = .returned (.bool r) ∧ Drawn0 w w':=by
 have H : ((impl_within.f a0 (-9999) 9999).bind fun t150 => (some t150)) = some r:=h
 clear h
 replace H:=Option.bind_eq_some_iff.mp H
 obtain ⟨t150,A20,H⟩:=H
 replace H : (some t150) = some r:=H
 have A2:=zm_ A20
 clear A20
 obtain rfl:=Option.some.inj H
 go_enter Try.func46,Try.ntmps46
 go_wp2_with (first|((with_reducible refine gate_callee (f:=49) rfl ?_);refine goesL_ (some 4) rfl rfl Try.func49 (by kernel_rfl) rfl #[.int .i64 a0,.int .i64 (-9999),.int .i64 9999] rfl (by (try simp only [List.map_toArray,List.map_cons,List.map_nil]);first|done|rfl|(simp only [List.length_drop,List.length_take];rfl)) ?_;(with_reducible refine (impl_within.calls a0 (-9999) 9999 t150 _ A2.out).mono ?_);rintro e w' ⟨rfl,⟨nd,rfl⟩⟩;refine ⟨_,rfl,?_⟩))
 go_ret
 exact ⟨by first|rfl|(simp;done)|(simp [*];done),by repeat (first|exact Drawn0.refl _|apply Drawn0.step)⟩

def impl_EvalExpr.l0 : Nat → List (S87) → Int → List Int → List Bool → Int → Int → List (S34) → Option (Int × Bool)
 |0,_,_,_,_,_,_,_ => none
 |k + 1,x1,x2,x8,x21,x22,x23,x152000 => if x23 < x22 then (if 0 ≤ x23 then (if x23 < (x21.length : Int) then (if rdOf false x21 x23 = true then (if x23 < (x152000.length : Int) then ((impl_evalNode.f k ((rd_T34 x152000 x23).f0) ((rd_T34 x152000 x23).f1) ((rd_T34 x152000 x23).f2) ((rd_T34 x152000 x23).f3) x8 x1 x2).bind fun bt162 => (if bt162.2 = true then ((impl_isNum.f bt162.1).bind fun t164 => (if t164 = true then (if x23 < (x8.length : Int) then (impl_EvalExpr.l0 k x1 x2 (x8.set (x23 : Int).toNat bt162.1) x21 x22 (wrap64 (x23 + 1)) x152000) else (none)) else (some (0,false)))) else (some (0,false)))) else (none)) else (impl_EvalExpr.l0 k x1 x2 x8 x21 x22 (wrap64 (x23 + 1)) x152000)) else (none)) else (none)) else (if 0 ≤ (wrap64 ((x8.length : Int) - 1)) then (if (wrap64 ((x8.length : Int) - 1)) < (x8.length : Int) then (some (rd x8 (wrap64 ((x8.length : Int) - 1)),true)) else (none)) else (none))
def impl_EvalExpr.f (k : Nat) (l0_0 : List (S34)) (l1 : List (S87)) (a2 : Int) : Option (Int × Bool):=(impl_ExprOk.f k l0_0).bind fun t152 => (if t152 = true then (if 0 ≤ (l0_0.length : Int) then (if ((l0_0.length : Int) : Int).toNat ≤ 35184372088832 then ((impl_reachedNodes.f k l0_0).bind fun t156 => (impl_EvalExpr.l0 k l1 a2 (List.replicate ((l0_0.length : Int) : Int).toNat 0) t156 (t156.length : Int) 0 l0_0)) else (none)) else (none)) else (some (0,false)))
theorem impl_EvalExpr.mono_l : ∀ k,(∀ y0 y1 y2 y3 y4 y5 y6,LeO (impl_EvalExpr.l0 k y0 y1 y2 y3 y4 y5 y6) (impl_EvalExpr.l0 (k + 1) y0 y1 y2 y3 y4 y5 y6))
 |0 => fun _ _ _ _ _ _ _ r h => by simp [impl_EvalExpr.l0] at h
 |k + 1 => by
  have ih0:=impl_EvalExpr.mono_l k
  ·intro y0 y1 y2 y3 y4 y5 y6
   unfold impl_EvalExpr.l0
   repeat' first
   |(with_reducible exact ih0 _ _ _ _ _ _ _)
   |(with_reducible exact impl_ExprOk.mono _ _)
   |(with_reducible exact impl_evalNode.mono _ _ _ _ _ _ _ _)
   |(with_reducible exact impl_reachedNodes.mono _ _)
   |(with_reducible exact LeO.refl _)
   |(with_reducible exact LeO.none _)
   |(with_reducible refine LeO.ite ?_ ?_)
   |(with_reducible refine LeO.bind ?_ (fun _ => ?_))
theorem impl_EvalExpr.mono : ∀ a0 a1 a2 k,LeO (impl_EvalExpr.f k a0 a1 a2) (impl_EvalExpr.f (k + 1) a0 a1 a2):=by
 intro a0 a1 a2 k
 have ih0:=impl_EvalExpr.mono_l k
 unfold impl_EvalExpr.f
 repeat' first
   |(with_reducible exact ih0 _ _ _ _ _ _ _)
   |(with_reducible exact impl_ExprOk.mono _ _)
   |(with_reducible exact impl_evalNode.mono _ _ _ _ _ _ _ _)
   |(with_reducible exact impl_reachedNodes.mono _ _)
   |(with_reducible exact LeO.refl _)
   |(with_reducible exact LeO.none _)
   |(with_reducible refine LeO.ite ?_ ?_)
   |(with_reducible refine LeO.bind ?_ (fun _ => ?_))
set_option maxHeartbeats 8000000 in
set_option maxRecDepth 100000 in
theorem impl_EvalExpr.calls (k : Nat) (A0_0 : Option Addr) (c0_0 : Nat) (l0_0 : List (S34)) (A1 : Option Addr) (c1 : Nat) (l1 : List (S87)) (a2 : Int) (r1 : Int) (r2 : Bool) (w : World) (hr0_0 : Kd.C k34 w A0_0 l0_0.length l0_0) (hc0_0 : l0_0.length ≤ c0_0) (hr1 : Kd.C k87 w A1 l1.length l1) (hc1 : l1.length ≤ c1) (h : impl_EvalExpr.f k l0_0 l1 a2 = some (r1,r2)) :
  Calls Try.prog 12 #[.agg #[.slice A0_0 l0_0.length c0_0],.slice A1 l1.length c1,.int .i64 a2] w fun e w' => e = .returned (.tuple #[.int .i64 r1,.bool r2]) ∧ Below w.heap.size w w':=by
 have hu28:=Try.underlying28
 have hu34:=Try.underlying34
 have HR0_0:=zm_ hr0_0
 have HC0_0:=zm_ hc0_0
 clear hr0_0 hc0_0
 have HR1:=zm_ hr1
 have HC1:=zm_ hc1
 clear hr1 hc1
 have HB:=zm_ (Below.refl w.heap.size w)
 have H : ((impl_ExprOk.f k l0_0).bind fun t152 => (if t152 = true then (if 0 ≤ (l0_0.length : Int) then (if ((l0_0.length : Int) : Int).toNat ≤ 35184372088832 then ((impl_reachedNodes.f k l0_0).bind fun t156 => (impl_EvalExpr.l0 k l1 a2 (List.replicate ((l0_0.length : Int) : Int).toNat 0) t156 (t156.length : Int) 0 l0_0)) else (none)) else (none)) else (some (0,false)))) = some (r1,r2):=h
 clear h
 replace H:=Option.bind_eq_some_iff.mp H
 obtain ⟨t152,A40,H⟩:=H
 replace H : (if t152 = true then (if 0 ≤ (l0_0.length : Int) then (if ((l0_0.length : Int) : Int).toNat ≤ 35184372088832 then ((impl_reachedNodes.f k l0_0).bind fun t156 => (impl_EvalExpr.l0 k l1 a2 (List.replicate ((l0_0.length : Int) : Int).toNat 0) t156 (t156.length : Int) 0 l0_0)) else (none)) else (none)) else (some (0,false))) = some (r1,r2):=H
 have A4:=zm_ A40
 clear A40
 by_cases c5 : t152 = true
 ·subst c5
  have H1 : (if 0 ≤ (l0_0.length : Int) then (if ((l0_0.length : Int) : Int).toNat ≤ 35184372088832 then ((impl_reachedNodes.f k l0_0).bind fun t156 => (impl_EvalExpr.l0 k l1 a2 (List.replicate ((l0_0.length : Int) : Int).toNat 0) t156 (t156.length : Int) 0 l0_0)) else (none)) else (none)) = some (r1,r2):=by rw [if_pos rfl] at H;exact H
  clear H
  have H:=H1
  clear H1
  by_cases c6 : 0 ≤ (l0_0.length : Int)
  ·rw [if_pos c6] at H
   have c6b0:=eq_true c6
   have c6b1 : decide (0 ≤ (l0_0.length : Int)) = true:=decide_eq_true c6
   clear c6
   by_cases c7 : ((l0_0.length : Int) : Int).toNat ≤ 35184372088832
   ·rw [if_pos c7] at H
    have c7b0:=eq_true c7
    have c7b1 : decide (((l0_0.length : Int) : Int).toNat ≤ 35184372088832) = true:=decide_eq_true c7
    clear c7
    obtain ⟨y153,hy153⟩ : ∃ y_ : List Int,y_ = (List.replicate ((l0_0.length : Int) : Int).toNat 0):=⟨_,rfl⟩
    replace H : ((impl_reachedNodes.f k l0_0).bind fun t156 => (impl_EvalExpr.l0 k l1 a2 y153 t156 (t156.length : Int) 0 l0_0)) = some (r1,r2):=by first|(rw [hy153];with_reducible exact H)|(have H2_:=(Option.bind_some _ _).symm.trans H;rw [hy153];with_reducible exact H2_)|(have H2_:=(Option.bind_some _ _).symm.trans H;with_reducible exact H2_)|with_reducible exact H|(rw [hy153];exact H)|exact H
    have Ny153:=zm_ hy153
    clear hy153
    replace H:=Option.bind_eq_some_iff.mp H
    obtain ⟨t156,A80,H⟩:=H
    replace H : (impl_EvalExpr.l0 k l1 a2 y153 t156 (t156.length : Int) 0 l0_0) = some (r1,r2):=H
    have A8:=zm_ A80
    clear A80
    have H':=zm_ H
    clear H
    go_enter Try.func12,Try.ntmps12
    go_wp2_with (first|((with_reducible refine gate_dst (N:=3) rfl ?_);refine box_event ?hg (N:=3) ?hd (cs:=#[.slice A0_0 l0_0.length c0_0]) (t:=28) ?hr ?_;(case hd => rfl);(case hg => rfl);(case hr => first|(go_simp;done)|(go_simp;rfl));intro gb151 hg w9 hbox hb;have n0_:=zm_ (below_step (by repeat (first|(with_reducible first|exact HB.out|apply za_|apply zn_|apply zd_)|exact HB.out)) hb);have n1_:=zm_ (hbox);have n2_:=zm_ ((by rw [hg];exact (below_size (by repeat (first|(with_reducible first|exact HB.out|apply za_|apply zn_|apply zd_)|exact HB.out))) : w.heap.size ≤ gb151));have n3_:=zm_ ((by rw [hg];exact (below_size (by repeat (first|(with_reducible first|exact HB.out|apply za_|apply zn_|apply zd_)|exact HB.out))) : w.heap.size ≤ gb151));clear HB;have HB:=n0_;have BK151:=n1_;have GW151:=n2_;have GE151:=n3_;clear n0_ n1_ n2_ n3_;clear hb hbox hg;have hcz10_0 : w9.cell? ⟨gb151,0,none⟩ = some (.slice A0_0 l0_0.length c0_0):=(zc_ BK151.out 0).trans rfl;have hfz10_0:=zf_ BK151.out 0)|((with_reducible refine gate_callee (f:=14) rfl ?_);refine goesL_ (some 14) rfl rfl Try.func14 (by kernel_rfl) rfl #[.agg #[.slice A0_0 l0_0.length c0_0]] rfl (by (try simp only [List.map_toArray,List.map_cons,List.map_nil]);first|done|rfl|(simp only [List.length_drop,List.length_take];rfl)) ?_;(with_reducible refine (impl_ExprOk.calls k _ _ l0_0 true _ ?side1 ?side2 A4.out).mono ?_);(case side1 => repeat (first|exact (Kd.C_below HR0_0.out HB.out)|(with_reducible refine Kd.C_alloc ?_ _)|(with_reducible refine Kd.C_drewN ?_ _)|(with_reducible refine Kd.C_drew ?_)));(case side2 => exact HC0_0.out);rintro e w11 ⟨rfl,hb⟩;refine ⟨_,rfl,?_⟩;have n0_:=zm_ (blk_below (g:=gb151) (o:=.cells #[.slice A0_0 l0_0.length c0_0] 28 (0,0)) (by (with_reducible repeat first|refine zl_ ?_ _|refine zr_ ?_|refine zk_ ?_ _);exact BK151.out) hb);have n1_:=zm_ (below_step (by repeat (first|(with_reducible first|exact HB.out|apply za_|apply zn_|apply zd_|refine zs_ ?_ GE151.out)|exact HB.out)) hb);clear BK151;clear HB;have BK151:=n0_;have HB:=n1_;clear n0_ n1_;(try clear hb);(try clear hb2);(try clear hk);(try clear hi);have hcz12_0 : w11.cell? ⟨gb151,0,none⟩ = some (.slice A0_0 l0_0.length c0_0):=(zc_ BK151.out 0).trans rfl;have hfz12_0:=zf_ BK151.out 0)|((with_reducible refine gate_dst (N:=19) rfl ?_);refine Kd.R_make (Kd.int .i64) _ 3 rfl (N:=19) rfl 24 _ _ rfl (l0_0.length : Int) rfl rfl Try.underlying24 (.int .i64 0) 8 info3 rfl (by decide) (by omega) 0 (ok:=fun _ => True) (okp:=fun _ => True) rfl (fun _ hk => hk) trivial (zo_) (Nat.le_trans (Nat.mul_le_mul_right _ (zo_ : (l0_0.length : Int).toNat ≤ 35184372088832)) (by omega)) (Below.refl _ _) (Nat.le_refl _) ?_;intro v154 w13 ho14 hb hg_ hnew_;clear hg_ hnew_;(first|rw [← Ny153.out] at ho14|(simp only [Int.reduceToNat] at ho14;rw [← Ny153.out] at ho14));have n0_:=zm_ (Kd.R_lower ho14 (below_size (by repeat (first|(with_reducible first|exact HB.out|apply za_|apply zn_|apply zd_|refine zs_ ?_ GE151.out)|exact HB.out))));have n1_:=zm_ (blk_below (g:=gb151) (o:=.cells #[.slice A0_0 l0_0.length c0_0] 28 (0,0)) (by (with_reducible repeat first|refine zl_ ?_ _|refine zr_ ?_|refine zk_ ?_ _);exact BK151.out) hb);have n2_:=zm_ (below_step (by repeat (first|(with_reducible first|exact HB.out|apply za_|apply zn_|apply zd_|refine zs_ ?_ GE151.out)|exact HB.out)) hb);clear BK151;clear HB;have HO155:=n0_;have BK151:=n1_;have HB:=n2_;clear n0_ n1_ n2_;clear hb ho14;have hcz15_0 : w13.cell? ⟨gb151,0,none⟩ = some (.slice A0_0 l0_0.length c0_0):=(zc_ BK151.out 0).trans rfl;have hfz15_0:=zf_ BK151.out 0)|((with_reducible refine gate_callee (f:=44) rfl ?_);refine goesL_ (some 21) rfl rfl Try.func44 (by kernel_rfl) rfl #[.agg #[.slice A0_0 l0_0.length c0_0]] rfl (by (try simp only [List.map_toArray,List.map_cons,List.map_nil]);first|done|rfl|(simp only [List.length_drop,List.length_take];rfl)) ?_;(with_reducible refine (impl_reachedNodes.calls k _ _ l0_0 t156 _ ?side1 ?side2 A8.out).mono ?_);(case side1 => repeat (first|exact (Kd.C_below HR0_0.out HB.out)|(with_reducible refine Kd.C_alloc ?_ _)|(with_reducible refine Kd.C_drewN ?_ _)|(with_reducible refine Kd.C_drew ?_)));(case side2 => exact HC0_0.out);rintro e w16 ⟨v157,rfl,ho0,hb⟩;refine ⟨_,rfl,?_⟩;have n0_:=zm_ (Kd.R_below (by (with_reducible repeat (first|apply Kd.R_alloc|apply Kd.R_drewN|apply Kd.R_drew));exact HO155.out) hb);have n1_:=zm_ (Kd.R_lower ho0 (below_size (by repeat (first|(with_reducible first|exact HB.out|apply za_|apply zn_|apply zd_|refine zs_ ?_ GE151.out)|exact HB.out))));have n2_:=zm_ (blk_below (g:=gb151) (o:=.cells #[.slice A0_0 l0_0.length c0_0] 28 (0,0)) (by (with_reducible repeat first|refine zl_ ?_ _|refine zr_ ?_|refine zk_ ?_ _);exact BK151.out) hb);have n3_:=zm_ (below_step (by repeat (first|(with_reducible first|exact HB.out|apply za_|apply zn_|apply zd_|refine zs_ ?_ GE151.out)|exact HB.out)) hb);clear HO155;clear BK151;clear HB;have HO155:=n0_;have HO158:=n1_;have BK151:=n2_;have HB:=n3_;clear n0_ n1_ n2_ n3_;(try clear hb);(try clear hb2);(try clear hk);(try clear hi);(try clear ho0);obtain ⟨Ao17,co17,eo17⟩:=Kd.R_slice HO158.out;subst eo17))
    go_loopg [23] k (fun kq v23 w' => ∃ (x8_1 : List Int) (x23_1 : Int),v23 = .int .i64 x23_1 ∧ Aside0 (impl_EvalExpr.l0 kq l1 a2 x8_1 t156 (t156.length : Int) x23_1 l0_0 = some (r1,r2)) ∧ Aside0 (kq ≤ k) ∧ Aside0 (Kd.R (Kd.int .i64) 3 w' w.heap.size (fun _ => True) v154 x8_1) ∧ Aside0 (Kd.R Kd.bool 4 w' w.heap.size (fun _ => True) (.slice Ao17 t156.length co17) t156) ∧ Aside0 (w'.heap[gb151]? = some (.cells #[(.slice A0_0 l0_0.length c0_0)] 28 (0,0))) ∧ Aside0 (Below w.heap.size w w'))
    case atStart => exact ⟨(y153),(0),(by first|rfl|(exact congrArg Value.bool (isEmpty_ne _))|(exact congrArg Value.bool (isEmpty_ne' _))|(exact congrArg Value.bool (isEmpty_eq _))|(simp;done)|(simp [*];done)),H',⟨Nat.le_refl _⟩,⟨by (with_reducible repeat (first|apply Kd.R_alloc|apply Kd.R_drewN|apply Kd.R_drew));exact HO155.out⟩,⟨by (with_reducible repeat (first|apply Kd.R_alloc|apply Kd.R_drewN|apply Kd.R_drew));exact HO158.out⟩,⟨by (with_reducible repeat first|refine zl_ ?_ _|refine zr_ ?_|refine zk_ ?_ _);exact BK151.out⟩,⟨by repeat (first|(with_reducible first|exact HB.out|apply za_|apply zn_|apply zd_|refine zs_ ?_ GE151.out)|exact HB.out)⟩⟩
    case round =>
     clear H'
     try clear c1
     try clear p2
     try clear c4
     try clear c5
     try clear c6
     try clear c6b0
     try clear c6b1
     try clear c7
     try clear c7b0
     try clear c7b1
     try clear c12
     try clear c14
     try clear hcz10_0
     try clear hcz12_0
     try clear hcz15_0
     try clear hfz10_0
     try clear hfz12_0
     try clear hfz15_0
     obtain ⟨x8_1,x23_1,rfl,HA,HK1,HO_8,HO_21,BK151,HB⟩:=hrel
     cases gk with
     |zero => exact absurd HA.out (by simp [impl_EvalExpr.l0])
     |succ k1 =>
      have H:=HA.out
      clear HA
      simp only [impl_EvalExpr.l0] at H
      by_cases c18 : x23_1 < (t156.length : Int)
      ·rw [if_pos c18] at H
       have c18b0 : decide (x23_1 < (t156.length : Int)) = true:=decide_eq_true c18
       clear c18
       by_cases c19 : 0 ≤ x23_1
       ·rw [if_pos c19] at H
        have c19b0 : decide (0 ≤ x23_1) = true:=decide_eq_true c19
        clear c19
        by_cases c20 : x23_1 < (t156.length : Int)
        ·rw [if_pos c20] at H
         have c20b0 : decide (x23_1 < (t156.length : Int)) = true:=decide_eq_true c20
         clear c20
         obtain ⟨bq21,hbq21⟩ : ∃ b_ : Bool,b_ = (rdOf false t156 x23_1):=⟨_,rfl⟩
         replace H : (if bq21 = true then (if x23_1 < (l0_0.length : Int) then ((impl_evalNode.f k1 ((rd_T34 l0_0 x23_1).f0) ((rd_T34 l0_0 x23_1).f1) ((rd_T34 l0_0 x23_1).f2) ((rd_T34 l0_0 x23_1).f3) x8_1 l1 a2).bind fun bt162 => (if bt162.2 = true then ((impl_isNum.f bt162.1).bind fun t164 => (if t164 = true then (if x23_1 < (x8_1.length : Int) then (impl_EvalExpr.l0 k1 l1 a2 (x8_1.set (x23_1 : Int).toNat bt162.1) t156 (t156.length : Int) (wrap64 (x23_1 + 1)) l0_0) else (none)) else (some (0,false)))) else (some (0,false)))) else (none)) else (impl_EvalExpr.l0 k1 l1 a2 x8_1 t156 (t156.length : Int) (wrap64 (x23_1 + 1)) l0_0)) = some (r1,r2):=by rw [← hbq21] at H;exact H
         have Nbq21:=zm_ hbq21
         clear hbq21
         by_cases c22 : bq21 = true
         ·subst c22
          have H1 : (if x23_1 < (l0_0.length : Int) then ((impl_evalNode.f k1 ((rd_T34 l0_0 x23_1).f0) ((rd_T34 l0_0 x23_1).f1) ((rd_T34 l0_0 x23_1).f2) ((rd_T34 l0_0 x23_1).f3) x8_1 l1 a2).bind fun bt162 => (if bt162.2 = true then ((impl_isNum.f bt162.1).bind fun t164 => (if t164 = true then (if x23_1 < (x8_1.length : Int) then (impl_EvalExpr.l0 k1 l1 a2 (x8_1.set (x23_1 : Int).toNat bt162.1) t156 (t156.length : Int) (wrap64 (x23_1 + 1)) l0_0) else (none)) else (some (0,false)))) else (some (0,false)))) else (none)) = some (r1,r2):=by rw [if_pos rfl] at H;exact H
          clear H
          have H:=H1
          clear H1
          by_cases c23 : x23_1 < (l0_0.length : Int)
          ·rw [if_pos c23] at H
           have c23b0 : decide (x23_1 < (l0_0.length : Int)) = true:=decide_eq_true c23
           clear c23
           replace H:=Option.bind_eq_some_iff.mp H
           obtain ⟨⟨t162,t163⟩,A240,H⟩:=H
           replace H : (if t163 = true then ((impl_isNum.f t162).bind fun t164 => (if t164 = true then (if x23_1 < (x8_1.length : Int) then (impl_EvalExpr.l0 k1 l1 a2 (x8_1.set (x23_1 : Int).toNat t162) t156 (t156.length : Int) (wrap64 (x23_1 + 1)) l0_0) else (none)) else (some (0,false)))) else (some (0,false))) = some (r1,r2):=H
           have A24:=zm_ A240
           clear A240
           by_cases c25 : t163 = true
           ·subst c25
            have H1 : ((impl_isNum.f t162).bind fun t164 => (if t164 = true then (if x23_1 < (x8_1.length : Int) then (impl_EvalExpr.l0 k1 l1 a2 (x8_1.set (x23_1 : Int).toNat t162) t156 (t156.length : Int) (wrap64 (x23_1 + 1)) l0_0) else (none)) else (some (0,false)))) = some (r1,r2):=by rw [if_pos rfl] at H;exact H
            clear H
            have H:=H1
            clear H1
            replace H:=Option.bind_eq_some_iff.mp H
            obtain ⟨t164,A260,H⟩:=H
            replace H : (if t164 = true then (if x23_1 < (x8_1.length : Int) then (impl_EvalExpr.l0 k1 l1 a2 (x8_1.set (x23_1 : Int).toNat t162) t156 (t156.length : Int) (wrap64 (x23_1 + 1)) l0_0) else (none)) else (some (0,false))) = some (r1,r2):=H
            have A26:=zm_ A260
            clear A260
            by_cases c27 : t164 = true
            ·subst c27
             have H1 : (if x23_1 < (x8_1.length : Int) then (impl_EvalExpr.l0 k1 l1 a2 (x8_1.set (x23_1 : Int).toNat t162) t156 (t156.length : Int) (wrap64 (x23_1 + 1)) l0_0) else (none)) = some (r1,r2):=by rw [if_pos rfl] at H;exact H
             clear H
             have H:=H1
             clear H1
             by_cases c28 : x23_1 < (x8_1.length : Int)
             ·rw [if_pos c28] at H
              have c28b0 : decide (x23_1 < (x8_1.length : Int)) = true:=decide_eq_true c28
              clear c28
              obtain ⟨y165,hy165⟩ : ∃ y_ : List Int,y_ = (x8_1.set (x23_1 : Int).toNat t162):=⟨_,rfl⟩
              replace H : (impl_EvalExpr.l0 k1 l1 a2 y165 t156 (t156.length : Int) (wrap64 (x23_1 + 1)) l0_0) = some (r1,r2):=by first|(rw [hy165];with_reducible exact H)|(have H2_:=(Option.bind_some _ _).symm.trans H;rw [hy165];with_reducible exact H2_)|(have H2_:=(Option.bind_some _ _).symm.trans H;with_reducible exact H2_)|with_reducible exact H|(rw [hy165];exact H)|exact H
              have Ny165:=zm_ hy165
              clear hy165
              have H':=zm_ H
              clear H
              have p160 : 0 ≤ (x23_1 : Int):=zo_
              have q160 : x23_1 < (t156.length : Int):=zo_
              obtain ⟨ad160,e160,hx160_0⟩:=Kd.at_bool (Kd.R_reads' HO_21.out).2.2 x23_1 p160 q160
              (try rw [← Nbq21.out] at hx160_0)
              cases e160
              replace p160:=eq_true p160
              replace q160:=eq_true q160
              have hcz30_0 : wr.cell? ⟨gb151,0,none⟩ = some (.slice A0_0 l0_0.length c0_0):=(zc_ BK151.out 0).trans rfl
              have hfz30_0:=zf_ BK151.out 0
              have p161 : 0 ≤ (x23_1 : Int):=zo_
              have q161 : x23_1 < (l0_0.length : Int):=zo_
              obtain ⟨ad161,A161_3,c161_3,e161,hx161_0,hx161_1,hx161_2,hx161_3,hl161_3,hi161_3⟩:=at_T34 HR0_0.out x23_1 p161 q161
              cases e161
              replace hx161_0:=(HB.out.cell (zb_ w _ hx161_0)).trans hx161_0
              replace hx161_1:=(HB.out.cell (zb_ w _ hx161_1)).trans hx161_1
              replace hx161_2:=(HB.out.cell (zb_ w _ hx161_2)).trans hx161_2
              replace hx161_3:=(HB.out.cell (zb_ w _ hx161_3)).trans hx161_3
              have HR161_3:=zm_ hi161_3
              have HC161_3:=zm_ hl161_3
              clear hi161_3 hl161_3
              replace p161:=eq_true p161
              replace q161:=eq_true q161
              obtain ⟨Ao31,co31,eo31⟩:=Kd.R_slice HO_8.out
              subst eo31
              go_wp2_with (first|((with_reducible refine gate_callee (f:=45) rfl ?_);refine goesL_ (some 39) rfl rfl Try.func45 (by kernel_rfl) rfl #[.agg #[.int .i64 ((rd_T34 l0_0 x23_1).f0),.int .i64 ((rd_T34 l0_0 x23_1).f1),.string ((rd_T34 l0_0 x23_1).f2),.slice A161_3 ((rd_T34 l0_0 x23_1).f3).length c161_3],.slice Ao31 x8_1.length co31,.slice A1 l1.length c1,.int .i64 a2] rfl (by (try simp only [List.map_toArray,List.map_cons,List.map_nil]);first|done|rfl|(simp only [List.length_drop,List.length_take];rfl)) ?_;(with_reducible refine (impl_evalNode.calls k1 ((rd_T34 l0_0 x23_1).f0) ((rd_T34 l0_0 x23_1).f1) ((rd_T34 l0_0 x23_1).f2) _ _ ((rd_T34 l0_0 x23_1).f3) _ _ x8_1 _ _ l1 a2 t162 true _ ?side1 ?side2 ?side3 ?side4 ?side5 ?side6 A24.out).mono ?_);(case side1 => repeat (first|exact (Kd.C_below HR161_3.out HB.out)|(with_reducible refine Kd.C_alloc ?_ _)|(with_reducible refine Kd.C_drewN ?_ _)|(with_reducible refine Kd.C_drew ?_)));(case side2 => exact HC161_3.out);(case side3 => repeat (first|exact (Kd.R_reads' HO_8.out).2.2|(with_reducible refine Kd.C_alloc ?_ _)|(with_reducible refine Kd.C_drewN ?_ _)|(with_reducible refine Kd.C_drew ?_)));(case side4 => exact (Kd.R_reads' HO_8.out).2.1);(case side5 => repeat (first|exact (Kd.C_below HR1.out HB.out)|(with_reducible refine Kd.C_alloc ?_ _)|(with_reducible refine Kd.C_drewN ?_ _)|(with_reducible refine Kd.C_drew ?_)));(case side6 => exact HC1.out);rintro e w32 ⟨rfl,hb⟩;refine ⟨_,rfl,?_⟩;have n0_:=zm_ (Kd.R_below (by (with_reducible repeat (first|apply Kd.R_alloc|apply Kd.R_drewN|apply Kd.R_drew));exact HO_8.out) hb);have n1_:=zm_ (Kd.R_below (by (with_reducible repeat (first|apply Kd.R_alloc|apply Kd.R_drewN|apply Kd.R_drew));exact HO_21.out) hb);have n2_:=zm_ (blk_below (g:=gb151) (o:=.cells #[.slice (some ad161) l0_0.length c0_0] 28 (0,0)) (by (with_reducible repeat first|refine zl_ ?_ _|refine zr_ ?_|refine zk_ ?_ _);exact BK151.out) hb);have n3_:=zm_ (below_step (by repeat (first|(with_reducible first|exact HB.out|apply za_|apply zn_|apply zd_|refine zs_ ?_ GE151.out)|exact HB.out)) hb);clear HO_8;clear HO_21;clear BK151;clear HB;have HO_8:=n0_;have HO_21:=n1_;have BK151:=n2_;have HB:=n3_;clear n0_ n1_ n2_ n3_;(try clear hb);(try clear hb2);(try clear hk);(try clear hi))|(go_at_call 46;(with_reducible refine (impl_isNum.calls t162 true _ A26.out).mono ?_);rintro e w' ⟨rfl,⟨nd,rfl⟩⟩;(try (rw [drewN_self w32];generalize hq_ : World.drewN w32 _ = w32;have n0_ : Aside0 (Kd.R Kd.bool 4 w32 w.heap.size (fun _ => True) (.slice (some ad160) t156.length co17) t156):=⟨by rw [← hq_];exact (by (with_reducible repeat (first|apply Kd.R_alloc|apply Kd.R_drewN|apply Kd.R_drew));exact HO_21.out)⟩;have n1_ : Aside0 (Kd.R (Kd.int .i64) 3 w32 w.heap.size (fun _ => True) (.slice Ao31 x8_1.length co31) x8_1):=⟨by rw [← hq_];exact (by (with_reducible repeat (first|apply Kd.R_alloc|apply Kd.R_drewN|apply Kd.R_drew));exact HO_8.out)⟩;have n2_ : Aside0 (w32.heap[gb151]? = some (.cells #[.slice (some ad161) l0_0.length c0_0] 28 (0,0))):=⟨by rw [← hq_];exact (by (with_reducible repeat first|refine zl_ ?_ _|refine zr_ ?_|refine zk_ ?_ _);exact BK151.out)⟩;have n3_ : Aside0 (Below w.heap.size w w32):=⟨by rw [← hq_];exact (by repeat (first|(with_reducible first|exact HB.out|apply za_|apply zn_|apply zd_|refine zs_ ?_ GE151.out)|exact HB.out))⟩;clear HO_21 HO_8 BK151 HB hq_;have HO_21:=n0_;have HO_8:=n1_;have BK151:=n2_;have HB:=n3_;clear n0_ n1_ n2_ n3_));have p29 : 0 ≤ (x23_1 : Int):=zo_;have q29 : (x23_1 : Int) < ((x8_1.length : Int) : Int):=zo_;obtain ⟨go29,co29,eo29,gb29,gl29,cl29,HG29⟩:=Kd.R_form HO_8.out (by omega);(first|cases eo29|(injection eo29 with ea_ en_ ec_;(first|subst ea_|(injection ea_ with ea_;subst ea_));subst ec_;clear en_));have GB29:=zm_ gb29;have GG29:=zm_ HG29;clear gb29 gl29 HG29;obtain ⟨hx29_0,hf29_0⟩:=Kd.R_celln 0 HO_8.out (x23_1 : Int) p29 q29;replace p29:=eq_true p29;replace q29:=eq_true q29;obtain ⟨hy33_,hz33_⟩:=Kd.R_celln 0 HO_8.out (x23_1 : Int) (zo_) (zo_);have HP33:=Kd.R_putg HO_8.out (x23_1 : Int) t162)|((with_reducible refine gate_store (t:=3) (p:=52) rfl ?_);refine store_event (t:=3) (p:=52) (v:=?vo_w34) (w1:=(w32.setCell ⟨go29,(x23_1 : Int).toNat,none⟩ (.int .i64 t162))) ?hg ?ho ?hn ?hr ?_;(case ho => rfl);(case hg => rfl);(case hn => rfl);(case hr => first|(go_simp;done)|(go_simp;rfl));intro w34 hw;have hg : w32.grownBy w34 (some go29):=(by rw [hw];exact HP33.2);have hp_ : Kd.R (Kd.int .i64) 3 w34 w.heap.size (fun _ => True) (.slice (some ⟨go29,0,none⟩) x8_1.length co31) y165:=(by rw [hw,Ny165.out];exact HP33.1);clear HP33;have n0_:=zm_ (hp_);have n1_:=zm_ (Kd.R_over' (v:=(.slice (some ⟨go29,0,none⟩) x8_1.length co31)) (by (with_reducible repeat (first|apply Kd.R_alloc|apply Kd.R_drewN|apply Kd.R_drew));exact HO_21.out) (Kd.R_typed HO_8.out) (by decide) hg);have n2_:=zm_ (blk_grown (g:=gb151) (o:=.cells #[.slice (some ad161) l0_0.length c0_0] 28 (0,0)) (by (with_reducible repeat first|refine zl_ ?_ _|refine zr_ ?_|refine zk_ ?_ _);exact BK151.out) hg (Kd.R_ne HO_8.out BK151.out (by decide)));have n3_:=zm_ ((by rw [hw];exact zs_ (HB.out) GB29.out : Below w.heap.size w w34));clear HO_8;clear HO_21;clear BK151;clear HB;have HO_8:=n0_;have HO_21:=n1_;have BK151:=n2_;have HB:=n3_;clear n0_ n1_ n2_ n3_;clear hg hw hp_))
              go_roundg k1
              case measure => have:=HK1.out;omega
              case rel => exact ⟨(y165),(wrap64 (x23_1 + 1)),(by first|rfl|(exact congrArg Value.bool (isEmpty_ne _))|(exact congrArg Value.bool (isEmpty_ne' _))|(exact congrArg Value.bool (isEmpty_eq _))|(simp;done)|(simp [*];done)),H',⟨by have:=HK1.out;omega⟩,⟨by (with_reducible repeat (first|apply Kd.R_alloc|apply Kd.R_drewN|apply Kd.R_drew));exact HO_8.out⟩,⟨by (with_reducible repeat (first|apply Kd.R_alloc|apply Kd.R_drewN|apply Kd.R_drew));exact HO_21.out⟩,⟨by (with_reducible repeat first|refine zl_ ?_ _|refine zr_ ?_|refine zk_ ?_ _);exact BK151.out⟩,⟨by repeat (first|(with_reducible first|exact HB.out|apply za_|apply zn_|apply zd_|refine zs_ ?_ GE151.out)|exact HB.out)⟩⟩
             ·rw [if_neg c28] at H
              exact absurd H (by simp)
            ·replace c27:=Bool.eq_false_iff.mpr c27
             subst c27
             have H1 : (some (0,false)) = some (r1,r2):=by rw [if_neg (show ¬ (false = true) by decide)] at H;exact H
             clear H
             have H:=H1
             clear H1
             simp only [Option.some.injEq,Prod.mk.injEq] at H
             obtain ⟨rfl,rfl⟩:=H
             have p160 : 0 ≤ (x23_1 : Int):=zo_
             have q160 : x23_1 < (t156.length : Int):=zo_
             obtain ⟨ad160,e160,hx160_0⟩:=Kd.at_bool (Kd.R_reads' HO_21.out).2.2 x23_1 p160 q160
             (try rw [← Nbq21.out] at hx160_0)
             cases e160
             replace p160:=eq_true p160
             replace q160:=eq_true q160
             have hcz35_0 : wr.cell? ⟨gb151,0,none⟩ = some (.slice A0_0 l0_0.length c0_0):=(zc_ BK151.out 0).trans rfl
             have hfz35_0:=zf_ BK151.out 0
             have p161 : 0 ≤ (x23_1 : Int):=zo_
             have q161 : x23_1 < (l0_0.length : Int):=zo_
             obtain ⟨ad161,A161_3,c161_3,e161,hx161_0,hx161_1,hx161_2,hx161_3,hl161_3,hi161_3⟩:=at_T34 HR0_0.out x23_1 p161 q161
             cases e161
             replace hx161_0:=(HB.out.cell (zb_ w _ hx161_0)).trans hx161_0
             replace hx161_1:=(HB.out.cell (zb_ w _ hx161_1)).trans hx161_1
             replace hx161_2:=(HB.out.cell (zb_ w _ hx161_2)).trans hx161_2
             replace hx161_3:=(HB.out.cell (zb_ w _ hx161_3)).trans hx161_3
             have HR161_3:=zm_ hi161_3
             have HC161_3:=zm_ hl161_3
             clear hi161_3 hl161_3
             replace p161:=eq_true p161
             replace q161:=eq_true q161
             obtain ⟨Ao36,co36,eo36⟩:=Kd.R_slice HO_8.out
             subst eo36
             go_wp2_with (first|((with_reducible refine gate_callee (f:=45) rfl ?_);refine goesL_ (some 39) rfl rfl Try.func45 (by kernel_rfl) rfl #[.agg #[.int .i64 ((rd_T34 l0_0 x23_1).f0),.int .i64 ((rd_T34 l0_0 x23_1).f1),.string ((rd_T34 l0_0 x23_1).f2),.slice A161_3 ((rd_T34 l0_0 x23_1).f3).length c161_3],.slice Ao36 x8_1.length co36,.slice A1 l1.length c1,.int .i64 a2] rfl (by (try simp only [List.map_toArray,List.map_cons,List.map_nil]);first|done|rfl|(simp only [List.length_drop,List.length_take];rfl)) ?_;(with_reducible refine (impl_evalNode.calls k1 ((rd_T34 l0_0 x23_1).f0) ((rd_T34 l0_0 x23_1).f1) ((rd_T34 l0_0 x23_1).f2) _ _ ((rd_T34 l0_0 x23_1).f3) _ _ x8_1 _ _ l1 a2 t162 true _ ?side1 ?side2 ?side3 ?side4 ?side5 ?side6 A24.out).mono ?_);(case side1 => repeat (first|exact (Kd.C_below HR161_3.out HB.out)|(with_reducible refine Kd.C_alloc ?_ _)|(with_reducible refine Kd.C_drewN ?_ _)|(with_reducible refine Kd.C_drew ?_)));(case side2 => exact HC161_3.out);(case side3 => repeat (first|exact (Kd.R_reads' HO_8.out).2.2|(with_reducible refine Kd.C_alloc ?_ _)|(with_reducible refine Kd.C_drewN ?_ _)|(with_reducible refine Kd.C_drew ?_)));(case side4 => exact (Kd.R_reads' HO_8.out).2.1);(case side5 => repeat (first|exact (Kd.C_below HR1.out HB.out)|(with_reducible refine Kd.C_alloc ?_ _)|(with_reducible refine Kd.C_drewN ?_ _)|(with_reducible refine Kd.C_drew ?_)));(case side6 => exact HC1.out);rintro e w37 ⟨rfl,hb⟩;refine ⟨_,rfl,?_⟩;have n0_:=zm_ (Kd.R_below (by (with_reducible repeat (first|apply Kd.R_alloc|apply Kd.R_drewN|apply Kd.R_drew));exact HO_8.out) hb);have n1_:=zm_ (Kd.R_below (by (with_reducible repeat (first|apply Kd.R_alloc|apply Kd.R_drewN|apply Kd.R_drew));exact HO_21.out) hb);have n2_:=zm_ (blk_below (g:=gb151) (o:=.cells #[.slice (some ad161) l0_0.length c0_0] 28 (0,0)) (by (with_reducible repeat first|refine zl_ ?_ _|refine zr_ ?_|refine zk_ ?_ _);exact BK151.out) hb);have n3_:=zm_ (below_step (by repeat (first|(with_reducible first|exact HB.out|apply za_|apply zn_|apply zd_|refine zs_ ?_ GE151.out)|exact HB.out)) hb);clear HO_8;clear HO_21;clear BK151;clear HB;have HO_8:=n0_;have HO_21:=n1_;have BK151:=n2_;have HB:=n3_;clear n0_ n1_ n2_ n3_;(try clear hb);(try clear hb2);(try clear hk);(try clear hi))|(go_at_call 46;(with_reducible refine (impl_isNum.calls t162 false _ A26.out).mono ?_);rintro e w' ⟨rfl,⟨nd,rfl⟩⟩))
             go_ret2
             exact ⟨by first|rfl|(simp [errW_none,errW_some] <;> rfl)|(simp [*,errW_none,errW_some] <;> rfl),by repeat (first|(with_reducible first|exact HB.out|apply za_|apply zn_|apply zd_|refine zs_ ?_ GE151.out)|exact HB.out)⟩
           ·replace c25:=Bool.eq_false_iff.mpr c25
            subst c25
            have H1 : (some (0,false)) = some (r1,r2):=by rw [if_neg (show ¬ (false = true) by decide)] at H;exact H
            clear H
            have H:=H1
            clear H1
            simp only [Option.some.injEq,Prod.mk.injEq] at H
            obtain ⟨rfl,rfl⟩:=H
            have p160 : 0 ≤ (x23_1 : Int):=zo_
            have q160 : x23_1 < (t156.length : Int):=zo_
            obtain ⟨ad160,e160,hx160_0⟩:=Kd.at_bool (Kd.R_reads' HO_21.out).2.2 x23_1 p160 q160
            (try rw [← Nbq21.out] at hx160_0)
            cases e160
            replace p160:=eq_true p160
            replace q160:=eq_true q160
            have hcz38_0 : wr.cell? ⟨gb151,0,none⟩ = some (.slice A0_0 l0_0.length c0_0):=(zc_ BK151.out 0).trans rfl
            have hfz38_0:=zf_ BK151.out 0
            have p161 : 0 ≤ (x23_1 : Int):=zo_
            have q161 : x23_1 < (l0_0.length : Int):=zo_
            obtain ⟨ad161,A161_3,c161_3,e161,hx161_0,hx161_1,hx161_2,hx161_3,hl161_3,hi161_3⟩:=at_T34 HR0_0.out x23_1 p161 q161
            cases e161
            replace hx161_0:=(HB.out.cell (zb_ w _ hx161_0)).trans hx161_0
            replace hx161_1:=(HB.out.cell (zb_ w _ hx161_1)).trans hx161_1
            replace hx161_2:=(HB.out.cell (zb_ w _ hx161_2)).trans hx161_2
            replace hx161_3:=(HB.out.cell (zb_ w _ hx161_3)).trans hx161_3
            have HR161_3:=zm_ hi161_3
            have HC161_3:=zm_ hl161_3
            clear hi161_3 hl161_3
            replace p161:=eq_true p161
            replace q161:=eq_true q161
            obtain ⟨Ao39,co39,eo39⟩:=Kd.R_slice HO_8.out
            subst eo39
            go_wp2_with (first|((with_reducible refine gate_callee (f:=45) rfl ?_);refine goesL_ (some 39) rfl rfl Try.func45 (by kernel_rfl) rfl #[.agg #[.int .i64 ((rd_T34 l0_0 x23_1).f0),.int .i64 ((rd_T34 l0_0 x23_1).f1),.string ((rd_T34 l0_0 x23_1).f2),.slice A161_3 ((rd_T34 l0_0 x23_1).f3).length c161_3],.slice Ao39 x8_1.length co39,.slice A1 l1.length c1,.int .i64 a2] rfl (by (try simp only [List.map_toArray,List.map_cons,List.map_nil]);first|done|rfl|(simp only [List.length_drop,List.length_take];rfl)) ?_;(with_reducible refine (impl_evalNode.calls k1 ((rd_T34 l0_0 x23_1).f0) ((rd_T34 l0_0 x23_1).f1) ((rd_T34 l0_0 x23_1).f2) _ _ ((rd_T34 l0_0 x23_1).f3) _ _ x8_1 _ _ l1 a2 t162 false _ ?side1 ?side2 ?side3 ?side4 ?side5 ?side6 A24.out).mono ?_);(case side1 => repeat (first|exact (Kd.C_below HR161_3.out HB.out)|(with_reducible refine Kd.C_alloc ?_ _)|(with_reducible refine Kd.C_drewN ?_ _)|(with_reducible refine Kd.C_drew ?_)));(case side2 => exact HC161_3.out);(case side3 => repeat (first|exact (Kd.R_reads' HO_8.out).2.2|(with_reducible refine Kd.C_alloc ?_ _)|(with_reducible refine Kd.C_drewN ?_ _)|(with_reducible refine Kd.C_drew ?_)));(case side4 => exact (Kd.R_reads' HO_8.out).2.1);(case side5 => repeat (first|exact (Kd.C_below HR1.out HB.out)|(with_reducible refine Kd.C_alloc ?_ _)|(with_reducible refine Kd.C_drewN ?_ _)|(with_reducible refine Kd.C_drew ?_)));(case side6 => exact HC1.out);rintro e w40 ⟨rfl,hb⟩;refine ⟨_,rfl,?_⟩;have n0_:=zm_ (Kd.R_below (by (with_reducible repeat (first|apply Kd.R_alloc|apply Kd.R_drewN|apply Kd.R_drew));exact HO_8.out) hb);have n1_:=zm_ (Kd.R_below (by (with_reducible repeat (first|apply Kd.R_alloc|apply Kd.R_drewN|apply Kd.R_drew));exact HO_21.out) hb);have n2_:=zm_ (blk_below (g:=gb151) (o:=.cells #[.slice (some ad161) l0_0.length c0_0] 28 (0,0)) (by (with_reducible repeat first|refine zl_ ?_ _|refine zr_ ?_|refine zk_ ?_ _);exact BK151.out) hb);have n3_:=zm_ (below_step (by repeat (first|(with_reducible first|exact HB.out|apply za_|apply zn_|apply zd_|refine zs_ ?_ GE151.out)|exact HB.out)) hb);clear HO_8;clear HO_21;clear BK151;clear HB;have HO_8:=n0_;have HO_21:=n1_;have BK151:=n2_;have HB:=n3_;clear n0_ n1_ n2_ n3_;(try clear hb);(try clear hb2);(try clear hk);(try clear hi)))
            go_ret2
            exact ⟨by first|rfl|(simp [errW_none,errW_some] <;> rfl)|(simp [*,errW_none,errW_some] <;> rfl),by repeat (first|(with_reducible first|exact HB.out|apply za_|apply zn_|apply zd_|refine zs_ ?_ GE151.out)|exact HB.out)⟩
          ·rw [if_neg c23] at H
           exact absurd H (by simp)
         ·replace c22:=Bool.eq_false_iff.mpr c22
          subst c22
          have H1 : (impl_EvalExpr.l0 k1 l1 a2 x8_1 t156 (t156.length : Int) (wrap64 (x23_1 + 1)) l0_0) = some (r1,r2):=by rw [if_neg (show ¬ (false = true) by decide)] at H;exact H
          clear H
          have H:=H1
          clear H1
          have H':=zm_ H
          clear H
          have p160 : 0 ≤ (x23_1 : Int):=zo_
          have q160 : x23_1 < (t156.length : Int):=zo_
          obtain ⟨ad160,e160,hx160_0⟩:=Kd.at_bool (Kd.R_reads' HO_21.out).2.2 x23_1 p160 q160
          (try rw [← Nbq21.out] at hx160_0)
          cases e160
          replace p160:=eq_true p160
          replace q160:=eq_true q160
          go_wp2
          go_roundg k1
          case measure => have:=HK1.out;omega
          case rel => exact ⟨(x8_1),(wrap64 (x23_1 + 1)),(by first|rfl|(exact congrArg Value.bool (isEmpty_ne _))|(exact congrArg Value.bool (isEmpty_ne' _))|(exact congrArg Value.bool (isEmpty_eq _))|(simp;done)|(simp [*];done)),H',⟨by have:=HK1.out;omega⟩,⟨by (with_reducible repeat (first|apply Kd.R_alloc|apply Kd.R_drewN|apply Kd.R_drew));exact HO_8.out⟩,⟨by (with_reducible repeat (first|apply Kd.R_alloc|apply Kd.R_drewN|apply Kd.R_drew));exact HO_21.out⟩,⟨by (with_reducible repeat first|refine zl_ ?_ _|refine zr_ ?_|refine zk_ ?_ _);exact BK151.out⟩,⟨by repeat (first|(with_reducible first|exact HB.out|apply za_|apply zn_|apply zd_|refine zs_ ?_ GE151.out)|exact HB.out)⟩⟩
        ·rw [if_neg c20] at H
         exact absurd H (by simp)
       ·rw [if_neg c19] at H
        exact absurd H (by simp)
      ·rw [if_neg c18] at H
       have c18b0 : decide (x23_1 < (t156.length : Int)) = false:=decide_eq_false c18
       clear c18
       obtain ⟨ji41,hji41⟩ : ∃ j_ : Int,(wrap64 ((x8_1.length : Int) - 1)) = j_:=⟨_,rfl⟩
       replace H : (if 0 ≤ (ji41) then (if (ji41) < (x8_1.length : Int) then (some (rd x8_1 (ji41),true)) else (none)) else (none)) = some (r1,r2):=by first|(rw [hji41] at H;exact H)|(simp only [hji41] at H ⊢;exact H)
       have hji41w : (IntKind.i64.wrap ((x8_1.length : Int) - 1)) = ji41:=(i64_w _).trans hji41
       by_cases c42 : 0 ≤ (ji41)
       ·rw [if_pos c42] at H
        have c42b0 : decide (0 ≤ (ji41)) = true:=decide_eq_true c42
        clear c42
        by_cases c43 : (ji41) < (x8_1.length : Int)
        ·rw [if_pos c43] at H
         have c43b0 : decide ((ji41) < (x8_1.length : Int)) = true:=decide_eq_true c43
         clear c43
         simp only [Option.some.injEq,Prod.mk.injEq] at H
         obtain ⟨rfl,rfl⟩:=H
         obtain ⟨Ao44,co44,eo44⟩:=Kd.R_slice HO_8.out
         subst eo44
         have p159 : 0 ≤ ((ji41) : Int):=zo_
         have q159 : (ji41) < (x8_1.length : Int):=zo_
         obtain ⟨ad159,e159,hx159_0⟩:=Kd.at_int (Kd.R_reads' HO_8.out).2.2 (ji41) p159 q159
         cases e159
         replace p159:=eq_true p159
         replace q159:=eq_true q159
         go_wp2
         go_ret2
         exact ⟨by first|rfl|(simp [errW_none,errW_some] <;> rfl)|(simp only [← hji41];first|rfl|(simp [errW_none,errW_some] <;> rfl))|(simp [*,errW_none,errW_some] <;> rfl),by repeat (first|(with_reducible first|exact HB.out|apply za_|apply zn_|apply zd_|refine zs_ ?_ GE151.out)|exact HB.out)⟩
        ·rw [if_neg c43] at H
         exact absurd H (by simp)
       ·rw [if_neg c42] at H
        exact absurd H (by simp)
   ·rw [if_neg c7] at H
    exact absurd H (by simp)
  ·rw [if_neg c6] at H
   exact absurd H (by simp)
 ·replace c5:=Bool.eq_false_iff.mpr c5
  subst c5
  have H1 : (some (0,false)) = some (r1,r2):=by rw [if_neg (show ¬ (false = true) by decide)] at H;exact H
  clear H
  have H:=H1
  clear H1
  simp only [Option.some.injEq,Prod.mk.injEq] at H
  obtain ⟨rfl,rfl⟩:=H
  go_enter Try.func12,Try.ntmps12
  go_wp2_with (first|((with_reducible refine gate_dst (N:=3) rfl ?_);refine box_event ?hg (N:=3) ?hd (cs:=#[.slice A0_0 l0_0.length c0_0]) (t:=28) ?hr ?_;(case hd => rfl);(case hg => rfl);(case hr => first|(go_simp;done)|(go_simp;rfl));intro gb151 hg w45 hbox hb;have n0_:=zm_ (below_step (by repeat (first|(with_reducible first|exact HB.out|apply za_|apply zn_|apply zd_)|exact HB.out)) hb);have n1_:=zm_ (hbox);have n2_:=zm_ ((by rw [hg];exact (below_size (by repeat (first|(with_reducible first|exact HB.out|apply za_|apply zn_|apply zd_)|exact HB.out))) : w.heap.size ≤ gb151));have n3_:=zm_ ((by rw [hg];exact (below_size (by repeat (first|(with_reducible first|exact HB.out|apply za_|apply zn_|apply zd_)|exact HB.out))) : w.heap.size ≤ gb151));clear HB;have HB:=n0_;have BK151:=n1_;have GW151:=n2_;have GE151:=n3_;clear n0_ n1_ n2_ n3_;clear hb hbox hg;have hcz46_0 : w45.cell? ⟨gb151,0,none⟩ = some (.slice A0_0 l0_0.length c0_0):=(zc_ BK151.out 0).trans rfl;have hfz46_0:=zf_ BK151.out 0)|((with_reducible refine gate_callee (f:=14) rfl ?_);refine goesL_ (some 14) rfl rfl Try.func14 (by kernel_rfl) rfl #[.agg #[.slice A0_0 l0_0.length c0_0]] rfl (by (try simp only [List.map_toArray,List.map_cons,List.map_nil]);first|done|rfl|(simp only [List.length_drop,List.length_take];rfl)) ?_;(with_reducible refine (impl_ExprOk.calls k _ _ l0_0 false _ ?side1 ?side2 A4.out).mono ?_);(case side1 => repeat (first|exact (Kd.C_below HR0_0.out HB.out)|(with_reducible refine Kd.C_alloc ?_ _)|(with_reducible refine Kd.C_drewN ?_ _)|(with_reducible refine Kd.C_drew ?_)));(case side2 => exact HC0_0.out);rintro e w47 ⟨rfl,hb⟩;refine ⟨_,rfl,?_⟩;have n0_:=zm_ (blk_below (g:=gb151) (o:=.cells #[.slice A0_0 l0_0.length c0_0] 28 (0,0)) (by (with_reducible repeat first|refine zl_ ?_ _|refine zr_ ?_|refine zk_ ?_ _);exact BK151.out) hb);have n1_:=zm_ (below_step (by repeat (first|(with_reducible first|exact HB.out|apply za_|apply zn_|apply zd_|refine zs_ ?_ GE151.out)|exact HB.out)) hb);clear BK151;clear HB;have BK151:=n0_;have HB:=n1_;clear n0_ n1_;(try clear hb);(try clear hb2);(try clear hk);(try clear hi)))
  go_ret2
  exact ⟨by first|rfl|(simp [errW_none,errW_some] <;> rfl)|(simp [*,errW_none,errW_some] <;> rfl),by repeat (first|(with_reducible first|exact HB.out|apply za_|apply zn_|apply zd_|refine zs_ ?_ GE151.out)|exact HB.out)⟩

def spec_l01In.f (a0 : Int) (a1 : Int) (a2 : Int) : Option (Bool):=if a0 ≥ a1 then (some (decide (a0 ≤ a2))) else (some false)
set_option maxHeartbeats 8000000 in
set_option maxRecDepth 100000 in
theorem spec_l01In.calls (a0 : Int) (a1 : Int) (a2 : Int) (r : Bool) (w : World) (h : spec_l01In.f a0 a1 a2 = some r) :
  Calls Try.prog 50 #[.int .i64 a0,.int .i64 a1,.int .i64 a2] w fun e w' => e = .returned (.bool r) ∧ Drawn0 w w':=by
 have H : (if a0 ≥ a1 then (some (decide (a0 ≤ a2))) else (some false)) = some r:=h
 clear h
 by_cases c4 : a0 ≥ a1
 ·rw [if_pos c4] at H
  have c4b0 : decide (a1 ≤ a0) = true:=decide_eq_true c4
  clear c4
  obtain rfl:=Option.some.inj H
  go_enter Try.func50,Try.ntmps50
  go_wp2
  go_ret
  exact ⟨by first|rfl|(simp;done)|(simp [*];done),by repeat (first|exact Drawn0.refl _|apply Drawn0.step)⟩
 ·rw [if_neg c4] at H
  have c4b0 : decide (a1 ≤ a0) = false:=decide_eq_false c4
  clear c4
  obtain rfl:=Option.some.inj H
  go_enter Try.func50,Try.ntmps50
  go_wp2
  go_ret
  exact ⟨by first|rfl|(simp;done)|(simp [*];done),by repeat (first|exact Drawn0.refl _|apply Drawn0.step)⟩

def spec_l04Kids.j0 : Nat → Int → Bool → Option (Int)
 |0,_,_ => none
 |k + 1,x3,x4 => if x4 = true then (some 0) else (if x3 = 11 then (some 1) else (some 2))
def spec_l04Kids.f (k : Nat) (a0 : Int) : Option (Int):=if a0 = 1 then (spec_l04Kids.j0 k a0 (a0 == 1)) else (if a0 = 2 then (spec_l04Kids.j0 k a0 (a0 == 2)) else (spec_l04Kids.j0 k a0 (a0 == 3)))
theorem spec_l04Kids.mono_l : ∀ k,(∀ y0 y1,LeO (spec_l04Kids.j0 k y0 y1) (spec_l04Kids.j0 (k + 1) y0 y1))
 |0 => fun _ _ r h => by simp [spec_l04Kids.j0] at h
 |k + 1 => by
  have ih0:=spec_l04Kids.mono_l k
  ·intro y0 y1
   unfold spec_l04Kids.j0
   repeat' first
   |(with_reducible exact ih0 _ _)
   |(with_reducible exact LeO.refl _)
   |(with_reducible exact LeO.none _)
   |(with_reducible refine LeO.ite ?_ ?_)
   |(with_reducible refine LeO.bind ?_ (fun _ => ?_))
theorem spec_l04Kids.mono : ∀ a0 k,LeO (spec_l04Kids.f k a0) (spec_l04Kids.f (k + 1) a0):=by
 intro a0 k
 have ih0:=spec_l04Kids.mono_l k
 unfold spec_l04Kids.f
 repeat' first
   |(with_reducible exact ih0 _ _)
   |(with_reducible exact LeO.refl _)
   |(with_reducible exact LeO.none _)
   |(with_reducible refine LeO.ite ?_ ?_)
   |(with_reducible refine LeO.bind ?_ (fun _ => ?_))
set_option maxHeartbeats 8000000 in
set_option maxRecDepth 100000 in
theorem spec_l04Kids.calls (k : Nat) (a0 : Int) (r : Int) (w : World) (h : spec_l04Kids.f k a0 = some r) :
  Calls Try.prog 51 #[.int .i64 a0] w fun e w' => e = .returned (.int .i64 r) ∧ Drawn0 w w':=by
 have H : (if a0 = 1 then (spec_l04Kids.j0 k a0 (a0 == 1)) else (if a0 = 2 then (spec_l04Kids.j0 k a0 (a0 == 2)) else (spec_l04Kids.j0 k a0 (a0 == 3)))) = some r:=h
 clear h
 have HC2:=zm_ H
 clear H
 go_enter Try.func51,Try.ntmps51
 go_upto_if 4 with (fail)
 go_cut [4] (fun v4 wc => ∃ (kq : Nat) (x4_1 : Bool),v4 = .bool x4_1 ∧ Aside0 (spec_l04Kids.j0 kq a0 x4_1 = some r) ∧ Aside0 (kq ≤ k) ∧ Drawn0 w wc)
 case first =>
  have H:=HC2.out
  clear HC2
  by_cases c3 : a0 = 1
  ·rw [if_pos c3] at H
   have c3b0 : (a0 == 1) = true:=beq_iff_eq.mpr c3
   have c3b1 : (a0 != 1) = false:=bne_eq_false_iff_eq.mpr c3
   clear c3
   (first|rw [c3b0]|(simp only [i64_w,i32_w];rw [c3b0])|skip)
   have H':=zm_ H
   clear H
   go_wp2
   go_meet
   case rel => exact ⟨_,((a0 == 1)),(by first|rfl|(exact congrArg Value.bool (isEmpty_ne _))|(exact congrArg Value.bool (isEmpty_ne' _))|(exact congrArg Value.bool (isEmpty_eq _))|(simp;done)|(simp [*];done)),H',⟨by first|omega|exact Nat.le_refl _⟩,by repeat (first|exact Drawn0.refl _|apply Drawn0.step)⟩
  ·rw [if_neg c3] at H
   have c3b0 : (a0 == 1) = false:=beq_eq_false_iff_ne.mpr c3
   have c3b1 : (a0 != 1) = true:=bne_iff_ne.mpr c3
   (first|rw [c3b0]|(simp only [i64_w,i32_w];rw [c3b0])|skip)
   by_cases c4 : a0 = 2
   ·rw [if_pos c4] at H
    have c4b0 : (a0 == 2) = true:=beq_iff_eq.mpr c4
    have c4b1 : (a0 != 2) = false:=bne_eq_false_iff_eq.mpr c4
    clear c4
    have H':=zm_ H
    clear H
    go_wp2
    go_meet
    case rel => exact ⟨_,((a0 == 2)),(by first|rfl|(exact congrArg Value.bool (isEmpty_ne _))|(exact congrArg Value.bool (isEmpty_ne' _))|(exact congrArg Value.bool (isEmpty_eq _))|(simp;done)|(simp [*];done)),H',⟨by first|omega|exact Nat.le_refl _⟩,by repeat (first|exact Drawn0.refl _|apply Drawn0.step)⟩
   ·rw [if_neg c4] at H
    have c4b0 : (a0 == 2) = false:=beq_eq_false_iff_ne.mpr c4
    have c4b1 : (a0 != 2) = true:=bne_iff_ne.mpr c4
    have H':=zm_ H
    clear H
    go_wp2
    go_meet
    case rel => exact ⟨_,((a0 == 3)),(by first|rfl|(exact congrArg Value.bool (isEmpty_ne _))|(exact congrArg Value.bool (isEmpty_ne' _))|(exact congrArg Value.bool (isEmpty_eq _))|(simp;done)|(simp [*];done)),H',⟨by first|omega|exact Nat.le_refl _⟩,by repeat (first|exact Drawn0.refl _|apply Drawn0.step)⟩
 case rest =>
  clear HC2
  try clear p2
  try clear c3
  try clear c3b0
  try clear c3b1
  try clear c4
  try clear c4b0
  try clear c4b1
  obtain ⟨kq,x4_1,rfl,HA,HJ1,⟨mc1,rfl⟩⟩:=hcut
  cases kq with
  |zero => exact absurd HA.out (by simp [spec_l04Kids.j0])
  |succ kj1 =>
   have H:=HA.out
   clear HA
   simp only [spec_l04Kids.j0] at H
   by_cases c5 : x4_1 = true
   ·subst c5
    have H1 : (some 0) = some r:=by rw [if_pos rfl] at H;exact H
    clear H
    have H:=H1
    clear H1
    obtain rfl:=Option.some.inj H
    go_wp2
    go_ret
    exact ⟨by first|rfl|(simp;done)|(simp [*];done),by repeat (first|exact Drawn0.refl _|apply Drawn0.step)⟩
   ·replace c5:=Bool.eq_false_iff.mpr c5
    subst c5
    have H1 : (if a0 = 11 then (some 1) else (some 2)) = some r:=by rw [if_neg (show ¬ (false = true) by decide)] at H;exact H
    clear H
    have H:=H1
    clear H1
    by_cases c6 : a0 = 11
    ·rw [if_pos c6] at H
     have c6b0 : (a0 == 11) = true:=beq_iff_eq.mpr c6
     have c6b1 : (a0 != 11) = false:=bne_eq_false_iff_eq.mpr c6
     clear c6
     obtain rfl:=Option.some.inj H
     go_wp2
     go_ret
     exact ⟨by first|rfl|(simp;done)|(simp [*];done),by repeat (first|exact Drawn0.refl _|apply Drawn0.step)⟩
    ·rw [if_neg c6] at H
     have c6b0 : (a0 == 11) = false:=beq_eq_false_iff_ne.mpr c6
     have c6b1 : (a0 != 11) = true:=bne_iff_ne.mpr c6
     obtain rfl:=Option.some.inj H
     go_wp2
     go_ret
     exact ⟨by first|rfl|(simp;done)|(simp [*];done),by repeat (first|exact Drawn0.refl _|apply Drawn0.step)⟩

def spec_VarName.l0 : Nat → ByteArray → Int → Option (Bool)
 |0,_,_ => none
 |k + 1,x0,x3 => if x3 < (x0.size : Int) then (if 0 ≤ x3 then (if (bt x0 x3) < 97 then (some false) else (if (bt x0 x3) > 122 then (some false) else (spec_VarName.l0 k x0 (wrap64 (x3 + 1))))) else (none)) else ((spec_l01In.f (x0.size : Int) 1 4).bind fun t166 => (some t166))
def spec_VarName.f (k : Nat) (a0 : ByteArray) : Option (Bool):=spec_VarName.l0 k a0 0
theorem spec_VarName.mono_l : ∀ k,(∀ y0 y1,LeO (spec_VarName.l0 k y0 y1) (spec_VarName.l0 (k + 1) y0 y1))
 |0 => fun _ _ r h => by simp [spec_VarName.l0] at h
 |k + 1 => by
  have ih0:=spec_VarName.mono_l k
  ·intro y0 y1
   unfold spec_VarName.l0
   repeat' first
   |(with_reducible exact ih0 _ _)
   |(with_reducible exact LeO.refl _)
   |(with_reducible exact LeO.none _)
   |(with_reducible refine LeO.ite ?_ ?_)
   |(with_reducible refine LeO.bind ?_ (fun _ => ?_))
theorem spec_VarName.mono : ∀ a0 k,LeO (spec_VarName.f k a0) (spec_VarName.f (k + 1) a0):=by
 intro a0 k
 have ih0:=spec_VarName.mono_l k
 unfold spec_VarName.f
 repeat' first
   |(with_reducible exact ih0 _ _)
   |(with_reducible exact LeO.refl _)
   |(with_reducible exact LeO.none _)
   |(with_reducible refine LeO.ite ?_ ?_)
   |(with_reducible refine LeO.bind ?_ (fun _ => ?_))
set_option maxHeartbeats 8000000 in
set_option maxRecDepth 100000 in
theorem spec_VarName.calls (k : Nat) (a0 : ByteArray) (r : Bool) (w : World) (h : spec_VarName.f k a0 = some r) :
  Calls Try.prog 52 #[.string a0] w fun e w' => e = .returned (.bool r) ∧ Drawn0 w w':=by
 have H : (spec_VarName.l0 k a0 0) = some r:=h
 clear h
 have H':=zm_ H
 clear H
 go_enter Try.func52,Try.ntmps52
 go_wp2
 go_loopg [3] k (fun kq v3 w' => ∃ (x3_1 : Int),v3 = .int .i64 x3_1 ∧ Aside0 (spec_VarName.l0 kq a0 x3_1 = some r) ∧ Aside0 (kq ≤ k) ∧ Drawn0 w w')
 case atStart => exact ⟨(0),(by first|rfl|(exact congrArg Value.bool (isEmpty_ne _))|(exact congrArg Value.bool (isEmpty_ne' _))|(exact congrArg Value.bool (isEmpty_eq _))|(simp;done)|(simp [*];done)),H',⟨Nat.le_refl _⟩,by repeat (first|exact Drawn0.refl _|apply Drawn0.step)⟩
 case round =>
  clear H'
  obtain ⟨x3_1,rfl,HA,HK1,⟨m1,rfl⟩⟩:=hrel
  cases gk with
  |zero => exact absurd HA.out (by simp [spec_VarName.l0])
  |succ k1 =>
   have H:=HA.out
   clear HA
   simp only [spec_VarName.l0] at H
   by_cases c2 : x3_1 < (a0.size : Int)
   ·rw [if_pos c2] at H
    have c2b0 : decide (x3_1 < (a0.size : Int)) = true:=decide_eq_true c2
    clear c2
    by_cases c3 : 0 ≤ x3_1
    ·rw [if_pos c3] at H
     have c3b0 : decide (0 ≤ x3_1) = true:=decide_eq_true c3
     clear c3
     by_cases c5 : (bt a0 x3_1) < 97
     ·rw [if_pos c5] at H
      have c5b0 : decide ((bt a0 x3_1) < 97) = true:=decide_eq_true c5
      clear c5
      obtain rfl:=Option.some.inj H
      have p4 : 0 ≤ (x3_1 : Int):=zo_
      have q4 : x3_1 < (a0.size : Int):=zo_
      have hx4:=bt_at a0 x3_1
      replace p4:=eq_true p4
      replace q4:=eq_true q4
      go_wp2
      go_ret
      exact ⟨by first|rfl|(simp;done)|(simp [*];done),by repeat (first|exact Drawn0.refl _|apply Drawn0.step)⟩
     ·rw [if_neg c5] at H
      have c5b0 : decide ((bt a0 x3_1) < 97) = false:=decide_eq_false c5
      clear c5
      by_cases c7 : (bt a0 x3_1) > 122
      ·rw [if_pos c7] at H
       have c7b0 : decide (122 < (bt a0 x3_1)) = true:=decide_eq_true c7
       clear c7
       obtain rfl:=Option.some.inj H
       have p4 : 0 ≤ (x3_1 : Int):=zo_
       have q4 : x3_1 < (a0.size : Int):=zo_
       have hx4:=bt_at a0 x3_1
       replace p4:=eq_true p4
       replace q4:=eq_true q4
       have p6 : 0 ≤ (x3_1 : Int):=zo_
       have q6 : x3_1 < (a0.size : Int):=zo_
       have hx6:=bt_at a0 x3_1
       replace p6:=eq_true p6
       replace q6:=eq_true q6
       go_wp2
       go_ret
       exact ⟨by first|rfl|(simp;done)|(simp [*];done),by repeat (first|exact Drawn0.refl _|apply Drawn0.step)⟩
      ·rw [if_neg c7] at H
       have c7b0 : decide (122 < (bt a0 x3_1)) = false:=decide_eq_false c7
       clear c7
       have H':=zm_ H
       clear H
       have p4 : 0 ≤ (x3_1 : Int):=zo_
       have q4 : x3_1 < (a0.size : Int):=zo_
       have hx4:=bt_at a0 x3_1
       replace p4:=eq_true p4
       replace q4:=eq_true q4
       have p6 : 0 ≤ (x3_1 : Int):=zo_
       have q6 : x3_1 < (a0.size : Int):=zo_
       have hx6:=bt_at a0 x3_1
       replace p6:=eq_true p6
       replace q6:=eq_true q6
       go_wp2
       go_roundg k1
       case measure => have:=HK1.out;omega
       case rel => exact ⟨(wrap64 (x3_1 + 1)),(by first|rfl|(exact congrArg Value.bool (isEmpty_ne _))|(exact congrArg Value.bool (isEmpty_ne' _))|(exact congrArg Value.bool (isEmpty_eq _))|(simp;done)|(simp [*];done)),H',⟨by have:=HK1.out;omega⟩,by repeat (first|exact Drawn0.refl _|apply Drawn0.step)⟩
    ·rw [if_neg c3] at H
     exact absurd H (by simp)
   ·rw [if_neg c2] at H
    have c2b0 : decide (x3_1 < (a0.size : Int)) = false:=decide_eq_false c2
    clear c2
    replace H:=Option.bind_eq_some_iff.mp H
    obtain ⟨t166,A80,H⟩:=H
    replace H : (some t166) = some r:=H
    have A8:=zm_ A80
    clear A80
    obtain rfl:=Option.some.inj H
    go_wp2_with (first|((with_reducible refine gate_callee (f:=50) rfl ?_);refine goesL_ (some 22) rfl rfl Try.func50 (by kernel_rfl) rfl #[.int .i64 (a0.size : Int),.int .i64 1,.int .i64 4] rfl (by (try simp only [List.map_toArray,List.map_cons,List.map_nil]);first|done|rfl|(simp only [List.length_drop,List.length_take];rfl)) ?_;(with_reducible refine (spec_l01In.calls (a0.size : Int) 1 4 t166 _ A8.out).mono ?_);rintro e w' ⟨rfl,⟨nd,rfl⟩⟩;refine ⟨_,rfl,?_⟩))
    go_ret
    exact ⟨by first|rfl|(simp;done)|(simp [*];done),by repeat (first|exact Drawn0.refl _|apply Drawn0.step)⟩

end Go.Proofs.Ytnmhggdaccbbfaa.MFnExactEvalExpr
