import Derived.Test.YtnmhggdaccbbfaaMFnExprsx0
import Derived.Test.YtnmhggdaccbbfaaMFnExprsx1
import Derived.Test.YtnmhggdaccbbfaaMFnExprsx2
import Derived.Test.YtnmhggdaccbbfaaMFnExprsx3
namespace Go.Proofs.Ytnmhggdaccbbfaa.MFnExprs
open Go.RowKit Go.Proofs.YtnmhggdaccbbfaaW.PrintWords Go.Proofs.YtnmhggdaccbbfaaW.PrintLast Go.Proofs.YtnmhggdaccbbfaaW.PrintMore
attribute [local go_sem] max2_int min2_int max_two min_two max_three min_three max_four min_four
set_option linter.unusedVariables false
set_option linter.unusedSimpArgs false
theorem zt4_4 {p : Prop} (h : p := by (with_reducible repeat (first|apply Kd.R_alloc|apply Kd.R_drewN|apply Kd.R_drew));exact HO_8.out) : p := h
theorem zt4_3 {p : Prop} (h : p := by (with_reducible repeat (first|apply Kd.R_alloc|apply Kd.R_drewN|apply Kd.R_drew));exact HO_21.out) : p := h
theorem zt4_2 {p : Prop} (h : p := by (with_reducible repeat first|refine zl_ ?_ _|refine zr_ ?_|refine zk_ ?_ _);exact BK186.out) : p := h
theorem zt4_1 {p : Prop} (h : p := by repeat (first|(with_reducible first|exact HB.out|apply za_|apply zn_|apply zd_|refine zs_ ?_ GE186.out)|exact HB.out)) : p := h

def impl_EvalExpr.l0 : Nat → List (S87) → Int → List Int → List Bool → Int → Int → List (S34) → Option (Int × Bool)
 |0,_,_,_,_,_,_,_ => none
 |k + 1,x1,x2,x8,x21,x22,x23,x187000 => if x23 < x22 then (if 0 ≤ x23 then (if x23 < (x21.length : Int) then (if rdOf false x21 x23 = true then (if x23 < (x187000.length : Int) then ((impl_evalNode.f k ((rd_T34 x187000 x23).f0) ((rd_T34 x187000 x23).f1) ((rd_T34 x187000 x23).f2) ((rd_T34 x187000 x23).f3) x8 x1 x2).bind fun bt197 => (if bt197.2 = true then ((impl_isNum.f bt197.1).bind fun t199 => (if t199 = true then (if x23 < (x8.length : Int) then (impl_EvalExpr.l0 k x1 x2 (x8.set (x23 : Int).toNat bt197.1) x21 x22 (wrap64 (x23 + 1)) x187000) else (none)) else (some (0,false)))) else (some (0,false)))) else (none)) else (impl_EvalExpr.l0 k x1 x2 x8 x21 x22 (wrap64 (x23 + 1)) x187000)) else (none)) else (none)) else (if 0 ≤ (wrap64 ((x8.length : Int) - 1)) then (if (wrap64 ((x8.length : Int) - 1)) < (x8.length : Int) then (some (rd x8 (wrap64 ((x8.length : Int) - 1)),true)) else (none)) else (none))
def impl_EvalExpr.f (k : Nat) (l0_0 : List (S34)) (l1 : List (S87)) (a2 : Int) : Option (Int × Bool):=(impl_ExprOk.f k l0_0).bind fun t187 => (if t187 = true then (if 0 ≤ (l0_0.length : Int) then (if ((l0_0.length : Int) : Int).toNat ≤ 35184372088832 then ((impl_reachedNodes.f k l0_0).bind fun t191 => (impl_EvalExpr.l0 k l1 a2 (List.replicate ((l0_0.length : Int) : Int).toNat 0) t191 (t191.length : Int) 0 l0_0)) else (none)) else (none)) else (some (0,false)))
theorem impl_EvalExpr.mono_l : ∀ k,(∀ y0 y1 y2 y3 y4 y5 y6,LeO (impl_EvalExpr.l0 k y0 y1 y2 y3 y4 y5 y6) (impl_EvalExpr.l0 (k + 1) y0 y1 y2 y3 y4 y5 y6))
 |0 => fun _ _ _ _ _ _ _ r h => by simp [impl_EvalExpr.l0] at h
 |k + 1 => by
  have ih0:=impl_EvalExpr.mono_l k
  ·intro y0 y1 y2 y3 y4 y5 y6
   unfold impl_EvalExpr.l0
   repeat' first
   |(with_reducible exact ih0 _ _ _ _ _ _ _)
   |(with_reducible exact impl_ExprOk.mono _ _)
   |(with_reducible exact impl_evalNode.mono _ _ _ _ _ _ _ _)
   |(with_reducible exact impl_reachedNodes.mono _ _)
   |(with_reducible exact LeO.refl _)
   |(with_reducible exact LeO.none _)
   |(with_reducible refine LeO.ite ?_ ?_)
   |(with_reducible refine LeO.bind ?_ (fun _ => ?_))
theorem impl_EvalExpr.mono : ∀ a0 a1 a2 k,LeO (impl_EvalExpr.f k a0 a1 a2) (impl_EvalExpr.f (k + 1) a0 a1 a2):=by
 intro a0 a1 a2 k
 have ih0:=impl_EvalExpr.mono_l k
 unfold impl_EvalExpr.f
 repeat' first
   |(with_reducible exact ih0 _ _ _ _ _ _ _)
   |(with_reducible exact impl_ExprOk.mono _ _)
   |(with_reducible exact impl_evalNode.mono _ _ _ _ _ _ _ _)
   |(with_reducible exact impl_reachedNodes.mono _ _)
   |(with_reducible exact LeO.refl _)
   |(with_reducible exact LeO.none _)
   |(with_reducible refine LeO.ite ?_ ?_)
   |(with_reducible refine LeO.bind ?_ (fun _ => ?_))
set_option maxHeartbeats 8000000 in
set_option maxRecDepth 100000 in
theorem impl_EvalExpr.calls (k : Nat) (A0_0 : Option Addr) (c0_0 : Nat) (l0_0 : List (S34)) (A1 : Option Addr) (c1 : Nat) (l1 : List (S87)) (a2 : Int) (r1 : Int) (r2 : Bool) (w : World) (hr0_0 : Kd.C k34 w A0_0 l0_0.length l0_0) (hc0_0 : l0_0.length ≤ c0_0) (hr1 : Kd.C k87 w A1 l1.length l1) (hc1 : l1.length ≤ c1) (h : impl_EvalExpr.f k l0_0 l1 a2 = some (r1,r2)) :
  Calls Try.prog 12 #[.agg #[.slice A0_0 l0_0.length c0_0],.slice A1 l1.length c1,.int .i64 a2] w fun e w' => e = .returned (.tuple #[.int .i64 r1,.bool r2]) ∧ Below w.heap.size w w':=by
 have hu28:=Try.underlying28
 have hu34:=Try.underlying34
 have HR0_0:=zm_ hr0_0
 have HC0_0:=zm_ hc0_0
 clear hr0_0 hc0_0
 have HR1:=zm_ hr1
 have HC1:=zm_ hc1
 clear hr1 hc1
 have HB:=zm_ (Below.refl w.heap.size w)
 have H : ((impl_ExprOk.f k l0_0).bind fun t187 => (if t187 = true then (if 0 ≤ (l0_0.length : Int) then (if ((l0_0.length : Int) : Int).toNat ≤ 35184372088832 then ((impl_reachedNodes.f k l0_0).bind fun t191 => (impl_EvalExpr.l0 k l1 a2 (List.replicate ((l0_0.length : Int) : Int).toNat 0) t191 (t191.length : Int) 0 l0_0)) else (none)) else (none)) else (some (0,false)))) = some (r1,r2):=h
 clear h
 replace H:=Option.bind_eq_some_iff.mp H
 obtain ⟨t187,A40,H⟩:=H
 replace H : (if t187 = true then (if 0 ≤ (l0_0.length : Int) then (if ((l0_0.length : Int) : Int).toNat ≤ 35184372088832 then ((impl_reachedNodes.f k l0_0).bind fun t191 => (impl_EvalExpr.l0 k l1 a2 (List.replicate ((l0_0.length : Int) : Int).toNat 0) t191 (t191.length : Int) 0 l0_0)) else (none)) else (none)) else (some (0,false))) = some (r1,r2):=H
 have A4:=zm_ A40
 clear A40
 by_cases c5 : t187 = true
 ·subst c5
  have H1 : (if 0 ≤ (l0_0.length : Int) then (if ((l0_0.length : Int) : Int).toNat ≤ 35184372088832 then ((impl_reachedNodes.f k l0_0).bind fun t191 => (impl_EvalExpr.l0 k l1 a2 (List.replicate ((l0_0.length : Int) : Int).toNat 0) t191 (t191.length : Int) 0 l0_0)) else (none)) else (none)) = some (r1,r2):=by rw [if_pos rfl] at H;exact H
  clear H
  have H:=H1
  clear H1
  by_cases c6 : 0 ≤ (l0_0.length : Int)
  ·rw [if_pos c6] at H
   have c6b0:=eq_true c6
   have c6b1 : decide (0 ≤ (l0_0.length : Int)) = true:=decide_eq_true c6
   clear c6
   by_cases c7 : ((l0_0.length : Int) : Int).toNat ≤ 35184372088832
   ·rw [if_pos c7] at H
    have c7b0:=eq_true c7
    have c7b1 : decide (((l0_0.length : Int) : Int).toNat ≤ 35184372088832) = true:=decide_eq_true c7
    clear c7
    obtain ⟨y188,hy188⟩ : ∃ y_ : List Int,y_ = (List.replicate ((l0_0.length : Int) : Int).toNat 0):=⟨_,rfl⟩
    replace H : ((impl_reachedNodes.f k l0_0).bind fun t191 => (impl_EvalExpr.l0 k l1 a2 y188 t191 (t191.length : Int) 0 l0_0)) = some (r1,r2):=by first|(rw [hy188];with_reducible exact H)|(have H2_:=(Option.bind_some _ _).symm.trans H;rw [hy188];with_reducible exact H2_)|(have H2_:=(Option.bind_some _ _).symm.trans H;with_reducible exact H2_)|with_reducible exact H|(rw [hy188];exact H)|exact H
    have Ny188:=zm_ hy188
    clear hy188
    replace H:=Option.bind_eq_some_iff.mp H
    obtain ⟨t191,A80,H⟩:=H
    replace H : (impl_EvalExpr.l0 k l1 a2 y188 t191 (t191.length : Int) 0 l0_0) = some (r1,r2):=H
    have A8:=zm_ A80
    clear A80
    have H':=zm_ H
    clear H
    go_enter Try.func12,Try.ntmps12
    go_wp2_with (first|((with_reducible refine gate_dst (N:=3) rfl ?_);refine box_event ?hg (N:=3) ?hd (cs:=#[.slice A0_0 l0_0.length c0_0]) (t:=28) ?hr ?_;(case hd => rfl);(case hg => rfl);(case hr => first|(go_simp;done)|(go_simp;rfl));intro gb186 hg w9 hbox hb;have n0_:=zm_ (below_step zB_ hb);have n1_:=zm_ (hbox);have n2_:=zm_ ((by rw [hg];exact (below_size zB_) : w.heap.size ≤ gb186));have n3_:=zm_ ((by rw [hg];exact (below_size zB_) : w.heap.size ≤ gb186));clear HB;have HB:=n0_;have BK186:=n1_;have GW186:=n2_;have GE186:=n3_;clear n0_ n1_ n2_ n3_;clear hb hbox hg;have hcz10_0 : w9.cell? ⟨gb186,0,none⟩ = some (.slice A0_0 l0_0.length c0_0):=(zc_ BK186.out 0).trans rfl;have hfz10_0:=zf_ BK186.out 0)|((with_reducible refine gate_callee (f:=14) rfl ?_);refine goesL_ (some 14) rfl rfl Try.func14 (by kernel_rfl) rfl #[.agg #[.slice A0_0 l0_0.length c0_0]] rfl zq_ ?_;(with_reducible refine (impl_ExprOk.calls k _ _ l0_0 true _ ?side1 ?side2 A4.out).mono ?_);(case side1 => repeat (first|exact (Kd.C_below HR0_0.out HB.out)|(with_reducible refine Kd.C_alloc ?_ _)|(with_reducible refine Kd.C_drewN ?_ _)|(with_reducible refine Kd.C_drew ?_)));(case side2 => exact HC0_0.out);rintro e w11 ⟨rfl,hb⟩;refine ⟨_,rfl,?_⟩;have n0_:=zm_ (blk_below (g:=gb186) (o:=.cells #[.slice A0_0 l0_0.length c0_0] 28 (0,0)) zt4_2 hb);have n1_:=zm_ (below_step zt4_1 hb);clear BK186;clear HB;have BK186:=n0_;have HB:=n1_;clear n0_ n1_;(try clear hb);have hcz12_0 : w11.cell? ⟨gb186,0,none⟩ = some (.slice A0_0 l0_0.length c0_0):=(zc_ BK186.out 0).trans rfl;have hfz12_0:=zf_ BK186.out 0)|((with_reducible refine gate_dst (N:=19) rfl ?_);refine Kd.R_make (Kd.int .i64) _ 3 rfl (N:=19) rfl 24 _ _ rfl (l0_0.length : Int) rfl rfl Try.underlying24 (.int .i64 0) 8 info3 rfl (by decide) (by omega) 0 (ok:=fun _ => True) (okp:=fun _ => True) rfl (fun _ hk => hk) trivial (zo_) (Nat.le_trans (Nat.mul_le_mul_right _ (zo_ : (l0_0.length : Int).toNat ≤ 35184372088832)) (by omega)) (Below.refl _ _) (Nat.le_refl _) ?_;intro v189 w13 ho14 hb hg_ hnew_;clear hg_ hnew_;(first|rw [← Ny188.out] at ho14|(simp only [Int.reduceToNat] at ho14;rw [← Ny188.out] at ho14));have n0_:=zm_ (Kd.R_lower ho14 (below_size zt4_1));have n1_:=zm_ (blk_below (g:=gb186) (o:=.cells #[.slice A0_0 l0_0.length c0_0] 28 (0,0)) zt4_2 hb);have n2_:=zm_ (below_step zt4_1 hb);clear BK186;clear HB;have HO190:=n0_;have BK186:=n1_;have HB:=n2_;clear n0_ n1_ n2_;clear hb ho14;have hcz15_0 : w13.cell? ⟨gb186,0,none⟩ = some (.slice A0_0 l0_0.length c0_0):=(zc_ BK186.out 0).trans rfl;have hfz15_0:=zf_ BK186.out 0)|((with_reducible refine gate_callee (f:=44) rfl ?_);refine goesL_ (some 21) rfl rfl Try.func44 (by kernel_rfl) rfl #[.agg #[.slice A0_0 l0_0.length c0_0]] rfl zq_ ?_;(with_reducible refine (impl_reachedNodes.calls k _ _ l0_0 t191 _ ?side1 ?side2 A8.out).mono ?_);(case side1 => repeat (first|exact (Kd.C_below HR0_0.out HB.out)|(with_reducible refine Kd.C_alloc ?_ _)|(with_reducible refine Kd.C_drewN ?_ _)|(with_reducible refine Kd.C_drew ?_)));(case side2 => exact HC0_0.out);rintro e w16 ⟨v192,rfl,ho0,hb⟩;refine ⟨_,rfl,?_⟩;have n0_:=zm_ (Kd.R_below (by (with_reducible repeat (first|apply Kd.R_alloc|apply Kd.R_drewN|apply Kd.R_drew));exact HO190.out) hb);have n1_:=zm_ (Kd.R_lower ho0 (below_size zt4_1));have n2_:=zm_ (blk_below (g:=gb186) (o:=.cells #[.slice A0_0 l0_0.length c0_0] 28 (0,0)) zt4_2 hb);have n3_:=zm_ (below_step zt4_1 hb);clear HO190;clear BK186;clear HB;have HO190:=n0_;have HO193:=n1_;have BK186:=n2_;have HB:=n3_;clear n0_ n1_ n2_ n3_;(try clear hb);(try clear hb2);(try clear hk);(try clear hi);(try clear ho0);obtain ⟨Ao17,co17,eo17⟩:=Kd.R_slice HO193.out;subst eo17))
    go_loopg [23] k (fun kq v23 w' => ∃ (x8_1 : List Int) (x23_1 : Int),v23 = .int .i64 x23_1 ∧ Aside0 (impl_EvalExpr.l0 kq l1 a2 x8_1 t191 (t191.length : Int) x23_1 l0_0 = some (r1,r2)) ∧ Aside0 (kq ≤ k) ∧ Aside0 (Kd.R (Kd.int .i64) 3 w' w.heap.size (fun _ => True) v189 x8_1) ∧ Aside0 (Kd.R Kd.bool 4 w' w.heap.size (fun _ => True) (.slice Ao17 t191.length co17) t191) ∧ Aside0 (w'.heap[gb186]? = some (.cells #[(.slice A0_0 l0_0.length c0_0)] 28 (0,0))) ∧ Aside0 (Below w.heap.size w w'))
    case atStart => exact ⟨(y188),(0),zV_,H',⟨Nat.le_refl _⟩,⟨by (with_reducible repeat (first|apply Kd.R_alloc|apply Kd.R_drewN|apply Kd.R_drew));exact HO190.out⟩,⟨by (with_reducible repeat (first|apply Kd.R_alloc|apply Kd.R_drewN|apply Kd.R_drew));exact HO193.out⟩,⟨by (with_reducible repeat first|refine zl_ ?_ _|refine zr_ ?_|refine zk_ ?_ _);exact BK186.out⟩,⟨by repeat (first|(with_reducible first|exact HB.out|apply za_|apply zn_|apply zd_|refine zs_ ?_ GE186.out)|exact HB.out)⟩⟩
    case round =>
     clear H'
     try clear c1
     try clear p2
     try clear c4
     try clear c5
     try clear c6
     try clear c6b0
     try clear c6b1
     try clear c7
     try clear c7b0
     try clear c7b1
     try clear c12
     try clear c14
     try clear hcz10_0
     try clear hcz12_0
     try clear hcz15_0
     try clear hfz10_0
     try clear hfz12_0
     try clear hfz15_0
     obtain ⟨x8_1,x23_1,rfl,HA,HK1,HO_8,HO_21,BK186,HB⟩:=hrel
     cases gk with
     |zero => exact absurd HA.out (by simp [impl_EvalExpr.l0])
     |succ k1 =>
      have H:=HA.out
      clear HA
      simp only [impl_EvalExpr.l0] at H
      by_cases c18 : x23_1 < (t191.length : Int)
      ·rw [if_pos c18] at H
       have c18b0 : decide (x23_1 < (t191.length : Int)) = true:=decide_eq_true c18
       clear c18
       by_cases c19 : 0 ≤ x23_1
       ·rw [if_pos c19] at H
        have c19b0 : decide (0 ≤ x23_1) = true:=decide_eq_true c19
        clear c19
        by_cases c20 : x23_1 < (t191.length : Int)
        ·rw [if_pos c20] at H
         have c20b0 : decide (x23_1 < (t191.length : Int)) = true:=decide_eq_true c20
         clear c20
         obtain ⟨bq21,hbq21⟩ : ∃ b_ : Bool,b_ = (rdOf false t191 x23_1):=⟨_,rfl⟩
         replace H : (if bq21 = true then (if x23_1 < (l0_0.length : Int) then ((impl_evalNode.f k1 ((rd_T34 l0_0 x23_1).f0) ((rd_T34 l0_0 x23_1).f1) ((rd_T34 l0_0 x23_1).f2) ((rd_T34 l0_0 x23_1).f3) x8_1 l1 a2).bind fun bt197 => (if bt197.2 = true then ((impl_isNum.f bt197.1).bind fun t199 => (if t199 = true then (if x23_1 < (x8_1.length : Int) then (impl_EvalExpr.l0 k1 l1 a2 (x8_1.set (x23_1 : Int).toNat bt197.1) t191 (t191.length : Int) (wrap64 (x23_1 + 1)) l0_0) else (none)) else (some (0,false)))) else (some (0,false)))) else (none)) else (impl_EvalExpr.l0 k1 l1 a2 x8_1 t191 (t191.length : Int) (wrap64 (x23_1 + 1)) l0_0)) = some (r1,r2):=by rw [← hbq21] at H;exact H
         have Nbq21:=zm_ hbq21
         clear hbq21
         by_cases c22 : bq21 = true
         ·subst c22
          have H1 : (if x23_1 < (l0_0.length : Int) then ((impl_evalNode.f k1 ((rd_T34 l0_0 x23_1).f0) ((rd_T34 l0_0 x23_1).f1) ((rd_T34 l0_0 x23_1).f2) ((rd_T34 l0_0 x23_1).f3) x8_1 l1 a2).bind fun bt197 => (if bt197.2 = true then ((impl_isNum.f bt197.1).bind fun t199 => (if t199 = true then (if x23_1 < (x8_1.length : Int) then (impl_EvalExpr.l0 k1 l1 a2 (x8_1.set (x23_1 : Int).toNat bt197.1) t191 (t191.length : Int) (wrap64 (x23_1 + 1)) l0_0) else (none)) else (some (0,false)))) else (some (0,false)))) else (none)) = some (r1,r2):=by rw [if_pos rfl] at H;exact H
          clear H
          have H:=H1
          clear H1
          by_cases c23 : x23_1 < (l0_0.length : Int)
          ·rw [if_pos c23] at H
           have c23b0 : decide (x23_1 < (l0_0.length : Int)) = true:=decide_eq_true c23
           clear c23
           replace H:=Option.bind_eq_some_iff.mp H
           obtain ⟨⟨t197,t198⟩,A240,H⟩:=H
           replace H : (if t198 = true then ((impl_isNum.f t197).bind fun t199 => (if t199 = true then (if x23_1 < (x8_1.length : Int) then (impl_EvalExpr.l0 k1 l1 a2 (x8_1.set (x23_1 : Int).toNat t197) t191 (t191.length : Int) (wrap64 (x23_1 + 1)) l0_0) else (none)) else (some (0,false)))) else (some (0,false))) = some (r1,r2):=H
           have A24:=zm_ A240
           clear A240
           by_cases c25 : t198 = true
           ·subst c25
            have H1 : ((impl_isNum.f t197).bind fun t199 => (if t199 = true then (if x23_1 < (x8_1.length : Int) then (impl_EvalExpr.l0 k1 l1 a2 (x8_1.set (x23_1 : Int).toNat t197) t191 (t191.length : Int) (wrap64 (x23_1 + 1)) l0_0) else (none)) else (some (0,false)))) = some (r1,r2):=by rw [if_pos rfl] at H;exact H
            clear H
            have H:=H1
            clear H1
            replace H:=Option.bind_eq_some_iff.mp H
            obtain ⟨t199,A260,H⟩:=H
            replace H : (if t199 = true then (if x23_1 < (x8_1.length : Int) then (impl_EvalExpr.l0 k1 l1 a2 (x8_1.set (x23_1 : Int).toNat t197) t191 (t191.length : Int) (wrap64 (x23_1 + 1)) l0_0) else (none)) else (some (0,false))) = some (r1,r2):=H
            have A26:=zm_ A260
            clear A260
            by_cases c27 : t199 = true
            ·subst c27
             have H1 : (if x23_1 < (x8_1.length : Int) then (impl_EvalExpr.l0 k1 l1 a2 (x8_1.set (x23_1 : Int).toNat t197) t191 (t191.length : Int) (wrap64 (x23_1 + 1)) l0_0) else (none)) = some (r1,r2):=by rw [if_pos rfl] at H;exact H
             clear H
             have H:=H1
             clear H1
             by_cases c28 : x23_1 < (x8_1.length : Int)
             ·rw [if_pos c28] at H
              have c28b0 : decide (x23_1 < (x8_1.length : Int)) = true:=decide_eq_true c28
              clear c28
              obtain ⟨y200,hy200⟩ : ∃ y_ : List Int,y_ = (x8_1.set (x23_1 : Int).toNat t197):=⟨_,rfl⟩
              replace H : (impl_EvalExpr.l0 k1 l1 a2 y200 t191 (t191.length : Int) (wrap64 (x23_1 + 1)) l0_0) = some (r1,r2):=by first|(rw [hy200];with_reducible exact H)|(have H2_:=(Option.bind_some _ _).symm.trans H;rw [hy200];with_reducible exact H2_)|(have H2_:=(Option.bind_some _ _).symm.trans H;with_reducible exact H2_)|with_reducible exact H|(rw [hy200];exact H)|exact H
              have Ny200:=zm_ hy200
              clear hy200
              have H':=zm_ H
              clear H
              have p195 : 0 ≤ (x23_1 : Int):=zo_
              have q195 : x23_1 < (t191.length : Int):=zo_
              obtain ⟨ad195,e195,hx195_0⟩:=Kd.at_bool (Kd.R_reads' HO_21.out).2.2 x23_1 p195 q195
              (try rw [← Nbq21.out] at hx195_0)
              cases e195
              replace p195:=eq_true p195
              replace q195:=eq_true q195
              have hcz30_0 : wr.cell? ⟨gb186,0,none⟩ = some (.slice A0_0 l0_0.length c0_0):=(zc_ BK186.out 0).trans rfl
              have hfz30_0:=zf_ BK186.out 0
              have p196 : 0 ≤ (x23_1 : Int):=zo_
              have q196 : x23_1 < (l0_0.length : Int):=zo_
              obtain ⟨ad196,A196_3,c196_3,e196,hx196_0,hx196_1,hx196_2,hx196_3,hl196_3,hi196_3⟩:=at_T34 HR0_0.out x23_1 p196 q196
              cases e196
              replace hx196_0:=(HB.out.cell (zb_ w _ hx196_0)).trans hx196_0
              replace hx196_1:=(HB.out.cell (zb_ w _ hx196_1)).trans hx196_1
              replace hx196_2:=(HB.out.cell (zb_ w _ hx196_2)).trans hx196_2
              replace hx196_3:=(HB.out.cell (zb_ w _ hx196_3)).trans hx196_3
              have HR196_3:=zm_ hi196_3
              have HC196_3:=zm_ hl196_3
              clear hi196_3 hl196_3
              replace p196:=eq_true p196
              replace q196:=eq_true q196
              obtain ⟨Ao31,co31,eo31⟩:=Kd.R_slice HO_8.out
              subst eo31
              go_wp2_with (first|((with_reducible refine gate_callee (f:=45) rfl ?_);refine goesL_ (some 39) rfl rfl Try.func45 (by kernel_rfl) rfl #[.agg #[.int .i64 ((rd_T34 l0_0 x23_1).f0),.int .i64 ((rd_T34 l0_0 x23_1).f1),.string ((rd_T34 l0_0 x23_1).f2),.slice A196_3 ((rd_T34 l0_0 x23_1).f3).length c196_3],.slice Ao31 x8_1.length co31,.slice A1 l1.length c1,.int .i64 a2] rfl zq_ ?_;(with_reducible refine (impl_evalNode.calls k1 ((rd_T34 l0_0 x23_1).f0) ((rd_T34 l0_0 x23_1).f1) ((rd_T34 l0_0 x23_1).f2) _ _ ((rd_T34 l0_0 x23_1).f3) _ _ x8_1 _ _ l1 a2 t197 true _ ?side1 ?side2 ?side3 ?side4 ?side5 ?side6 A24.out).mono ?_);(case side1 => repeat (first|exact (Kd.C_below HR196_3.out HB.out)|(with_reducible refine Kd.C_alloc ?_ _)|(with_reducible refine Kd.C_drewN ?_ _)|(with_reducible refine Kd.C_drew ?_)));(case side2 => exact HC196_3.out);(case side3 => repeat (first|exact (Kd.R_reads' HO_8.out).2.2|(with_reducible refine Kd.C_alloc ?_ _)|(with_reducible refine Kd.C_drewN ?_ _)|(with_reducible refine Kd.C_drew ?_)));(case side4 => exact (Kd.R_reads' HO_8.out).2.1);(case side5 => repeat (first|exact (Kd.C_below HR1.out HB.out)|(with_reducible refine Kd.C_alloc ?_ _)|(with_reducible refine Kd.C_drewN ?_ _)|(with_reducible refine Kd.C_drew ?_)));(case side6 => exact HC1.out);rintro e w32 ⟨rfl,hb⟩;refine ⟨_,rfl,?_⟩;have n0_:=zm_ (Kd.R_below zt4_4 hb);have n1_:=zm_ (Kd.R_below zt4_3 hb);have n2_:=zm_ (blk_below (g:=gb186) (o:=.cells #[.slice (some ad196) l0_0.length c0_0] 28 (0,0)) zt4_2 hb);have n3_:=zm_ (below_step zt4_1 hb);clear HO_8;clear HO_21;clear BK186;clear HB;have HO_8:=n0_;have HO_21:=n1_;have BK186:=n2_;have HB:=n3_;clear n0_ n1_ n2_ n3_;(try clear hb))|(go_at_call 46;(with_reducible refine (impl_isNum.calls t197 true _ A26.out).mono ?_);rintro e w' ⟨rfl,⟨nd,rfl⟩⟩;(try (rw [drewN_self w32];generalize hq_ : World.drewN w32 _ = w32;have n0_ : Aside0 (Kd.R Kd.bool 4 w32 w.heap.size (fun _ => True) (.slice (some ad195) t191.length co17) t191):=⟨by rw [← hq_];exact zt4_3⟩;have n1_ : Aside0 (Kd.R (Kd.int .i64) 3 w32 w.heap.size (fun _ => True) (.slice Ao31 x8_1.length co31) x8_1):=⟨by rw [← hq_];exact zt4_4⟩;have n2_ : Aside0 (w32.heap[gb186]? = some (.cells #[.slice (some ad196) l0_0.length c0_0] 28 (0,0))):=⟨by rw [← hq_];exact zt4_2⟩;have n3_ : Aside0 (Below w.heap.size w w32):=⟨by rw [← hq_];exact zt4_1⟩;clear HO_21 HO_8 BK186 HB hq_;have HO_21:=n0_;have HO_8:=n1_;have BK186:=n2_;have HB:=n3_;clear n0_ n1_ n2_ n3_));have p29 : 0 ≤ (x23_1 : Int):=zo_;have q29 : (x23_1 : Int) < ((x8_1.length : Int) : Int):=zo_;obtain ⟨go29,co29,eo29,gb29,gl29,cl29,HG29⟩:=Kd.R_form HO_8.out (by omega);(first|cases eo29|(injection eo29 with ea_ en_ ec_;(first|subst ea_|(injection ea_ with ea_;subst ea_));subst ec_;clear en_));have GB29:=zm_ gb29;have GG29:=zm_ HG29;clear gb29 gl29 HG29;obtain ⟨hx29_0,hf29_0⟩:=Kd.R_celln 0 HO_8.out (x23_1 : Int) p29 q29;replace p29:=eq_true p29;replace q29:=eq_true q29;obtain ⟨hy33_,hz33_⟩:=Kd.R_celln 0 HO_8.out (x23_1 : Int) (zo_) (zo_);have HP33:=Kd.R_putg HO_8.out (x23_1 : Int) t197)|((with_reducible refine gate_store (t:=3) (p:=52) rfl ?_);refine store_event (t:=3) (p:=52) (v:=?vo_w34) (w1:=(w32.setCell ⟨go29,(x23_1 : Int).toNat,none⟩ (.int .i64 t197))) ?hg ?ho ?hn ?hr ?_;(case ho => rfl);(case hg => rfl);(case hn => rfl);(case hr => first|(go_simp;done)|(go_simp;rfl));intro w34 hw;have hg : w32.grownBy w34 (some go29):=(by rw [hw];exact HP33.2);have hp_ : Kd.R (Kd.int .i64) 3 w34 w.heap.size (fun _ => True) (.slice (some ⟨go29,0,none⟩) x8_1.length co31) y200:=(by rw [hw,Ny200.out];exact HP33.1);clear HP33;have n0_:=zm_ (hp_);have n1_:=zm_ (Kd.R_over' (v:=(.slice (some ⟨go29,0,none⟩) x8_1.length co31)) zt4_3 (Kd.R_typed HO_8.out) (by decide) hg);have n2_:=zm_ (blk_grown (g:=gb186) (o:=.cells #[.slice (some ad196) l0_0.length c0_0] 28 (0,0)) zt4_2 hg (Kd.R_ne HO_8.out BK186.out (by decide)));have n3_:=zm_ ((by rw [hw];exact zs_ (HB.out) GB29.out : Below w.heap.size w w34));clear HO_8;clear HO_21;clear BK186;clear HB;have HO_8:=n0_;have HO_21:=n1_;have BK186:=n2_;have HB:=n3_;clear n0_ n1_ n2_ n3_;clear hg hw hp_))
              go_roundg k1
              case measure => have:=HK1.out;omega
              case rel => exact ⟨(y200),(wrap64 (x23_1 + 1)),zV_,H',⟨by have:=HK1.out;omega⟩,⟨by (with_reducible repeat (first|apply Kd.R_alloc|apply Kd.R_drewN|apply Kd.R_drew));exact HO_8.out⟩,⟨by (with_reducible repeat (first|apply Kd.R_alloc|apply Kd.R_drewN|apply Kd.R_drew));exact HO_21.out⟩,⟨by (with_reducible repeat first|refine zl_ ?_ _|refine zr_ ?_|refine zk_ ?_ _);exact BK186.out⟩,⟨by repeat (first|(with_reducible first|exact HB.out|apply za_|apply zn_|apply zd_|refine zs_ ?_ GE186.out)|exact HB.out)⟩⟩
             ·rw [if_neg c28] at H
              exact absurd H (by simp)
            ·replace c27:=Bool.eq_false_iff.mpr c27
             subst c27
             have H1 : (some (0,false)) = some (r1,r2):=by rw [if_neg (show ¬ (false = true) by decide)] at H;exact H
             clear H
             have H:=H1
             clear H1
             simp only [Option.some.injEq,Prod.mk.injEq] at H
             obtain ⟨rfl,rfl⟩:=H
             have p195 : 0 ≤ (x23_1 : Int):=zo_
             have q195 : x23_1 < (t191.length : Int):=zo_
             obtain ⟨ad195,e195,hx195_0⟩:=Kd.at_bool (Kd.R_reads' HO_21.out).2.2 x23_1 p195 q195
             (try rw [← Nbq21.out] at hx195_0)
             cases e195
             replace p195:=eq_true p195
             replace q195:=eq_true q195
             have hcz35_0 : wr.cell? ⟨gb186,0,none⟩ = some (.slice A0_0 l0_0.length c0_0):=(zc_ BK186.out 0).trans rfl
             have hfz35_0:=zf_ BK186.out 0
             have p196 : 0 ≤ (x23_1 : Int):=zo_
             have q196 : x23_1 < (l0_0.length : Int):=zo_
             obtain ⟨ad196,A196_3,c196_3,e196,hx196_0,hx196_1,hx196_2,hx196_3,hl196_3,hi196_3⟩:=at_T34 HR0_0.out x23_1 p196 q196
             cases e196
             replace hx196_0:=(HB.out.cell (zb_ w _ hx196_0)).trans hx196_0
             replace hx196_1:=(HB.out.cell (zb_ w _ hx196_1)).trans hx196_1
             replace hx196_2:=(HB.out.cell (zb_ w _ hx196_2)).trans hx196_2
             replace hx196_3:=(HB.out.cell (zb_ w _ hx196_3)).trans hx196_3
             have HR196_3:=zm_ hi196_3
             have HC196_3:=zm_ hl196_3
             clear hi196_3 hl196_3
             replace p196:=eq_true p196
             replace q196:=eq_true q196
             obtain ⟨Ao36,co36,eo36⟩:=Kd.R_slice HO_8.out
             subst eo36
             go_wp2_with (first|((with_reducible refine gate_callee (f:=45) rfl ?_);refine goesL_ (some 39) rfl rfl Try.func45 (by kernel_rfl) rfl #[.agg #[.int .i64 ((rd_T34 l0_0 x23_1).f0),.int .i64 ((rd_T34 l0_0 x23_1).f1),.string ((rd_T34 l0_0 x23_1).f2),.slice A196_3 ((rd_T34 l0_0 x23_1).f3).length c196_3],.slice Ao36 x8_1.length co36,.slice A1 l1.length c1,.int .i64 a2] rfl zq_ ?_;(with_reducible refine (impl_evalNode.calls k1 ((rd_T34 l0_0 x23_1).f0) ((rd_T34 l0_0 x23_1).f1) ((rd_T34 l0_0 x23_1).f2) _ _ ((rd_T34 l0_0 x23_1).f3) _ _ x8_1 _ _ l1 a2 t197 true _ ?side1 ?side2 ?side3 ?side4 ?side5 ?side6 A24.out).mono ?_);(case side1 => repeat (first|exact (Kd.C_below HR196_3.out HB.out)|(with_reducible refine Kd.C_alloc ?_ _)|(with_reducible refine Kd.C_drewN ?_ _)|(with_reducible refine Kd.C_drew ?_)));(case side2 => exact HC196_3.out);(case side3 => repeat (first|exact (Kd.R_reads' HO_8.out).2.2|(with_reducible refine Kd.C_alloc ?_ _)|(with_reducible refine Kd.C_drewN ?_ _)|(with_reducible refine Kd.C_drew ?_)));(case side4 => exact (Kd.R_reads' HO_8.out).2.1);(case side5 => repeat (first|exact (Kd.C_below HR1.out HB.out)|(with_reducible refine Kd.C_alloc ?_ _)|(with_reducible refine Kd.C_drewN ?_ _)|(with_reducible refine Kd.C_drew ?_)));(case side6 => exact HC1.out);rintro e w37 ⟨rfl,hb⟩;refine ⟨_,rfl,?_⟩;have n0_:=zm_ (Kd.R_below zt4_4 hb);have n1_:=zm_ (Kd.R_below zt4_3 hb);have n2_:=zm_ (blk_below (g:=gb186) (o:=.cells #[.slice (some ad196) l0_0.length c0_0] 28 (0,0)) zt4_2 hb);have n3_:=zm_ (below_step zt4_1 hb);clear HO_8;clear HO_21;clear BK186;clear HB;have HO_8:=n0_;have HO_21:=n1_;have BK186:=n2_;have HB:=n3_;clear n0_ n1_ n2_ n3_;(try clear hb))|(go_at_call 46;(with_reducible refine (impl_isNum.calls t197 false _ A26.out).mono ?_);rintro e w' ⟨rfl,⟨nd,rfl⟩⟩))
             go_ret2
             exact ⟨zE_,by repeat (first|(with_reducible first|exact HB.out|apply za_|apply zn_|apply zd_|refine zs_ ?_ GE186.out)|exact HB.out)⟩
           ·replace c25:=Bool.eq_false_iff.mpr c25
            subst c25
            have H1 : (some (0,false)) = some (r1,r2):=by rw [if_neg (show ¬ (false = true) by decide)] at H;exact H
            clear H
            have H:=H1
            clear H1
            simp only [Option.some.injEq,Prod.mk.injEq] at H
            obtain ⟨rfl,rfl⟩:=H
            have p195 : 0 ≤ (x23_1 : Int):=zo_
            have q195 : x23_1 < (t191.length : Int):=zo_
            obtain ⟨ad195,e195,hx195_0⟩:=Kd.at_bool (Kd.R_reads' HO_21.out).2.2 x23_1 p195 q195
            (try rw [← Nbq21.out] at hx195_0)
            cases e195
            replace p195:=eq_true p195
            replace q195:=eq_true q195
            have hcz38_0 : wr.cell? ⟨gb186,0,none⟩ = some (.slice A0_0 l0_0.length c0_0):=(zc_ BK186.out 0).trans rfl
            have hfz38_0:=zf_ BK186.out 0
            have p196 : 0 ≤ (x23_1 : Int):=zo_
            have q196 : x23_1 < (l0_0.length : Int):=zo_
            obtain ⟨ad196,A196_3,c196_3,e196,hx196_0,hx196_1,hx196_2,hx196_3,hl196_3,hi196_3⟩:=at_T34 HR0_0.out x23_1 p196 q196
            cases e196
            replace hx196_0:=(HB.out.cell (zb_ w _ hx196_0)).trans hx196_0
            replace hx196_1:=(HB.out.cell (zb_ w _ hx196_1)).trans hx196_1
            replace hx196_2:=(HB.out.cell (zb_ w _ hx196_2)).trans hx196_2
            replace hx196_3:=(HB.out.cell (zb_ w _ hx196_3)).trans hx196_3
            have HR196_3:=zm_ hi196_3
            have HC196_3:=zm_ hl196_3
            clear hi196_3 hl196_3
            replace p196:=eq_true p196
            replace q196:=eq_true q196
            obtain ⟨Ao39,co39,eo39⟩:=Kd.R_slice HO_8.out
            subst eo39
            go_wp2_with (first|((with_reducible refine gate_callee (f:=45) rfl ?_);refine goesL_ (some 39) rfl rfl Try.func45 (by kernel_rfl) rfl #[.agg #[.int .i64 ((rd_T34 l0_0 x23_1).f0),.int .i64 ((rd_T34 l0_0 x23_1).f1),.string ((rd_T34 l0_0 x23_1).f2),.slice A196_3 ((rd_T34 l0_0 x23_1).f3).length c196_3],.slice Ao39 x8_1.length co39,.slice A1 l1.length c1,.int .i64 a2] rfl zq_ ?_;(with_reducible refine (impl_evalNode.calls k1 ((rd_T34 l0_0 x23_1).f0) ((rd_T34 l0_0 x23_1).f1) ((rd_T34 l0_0 x23_1).f2) _ _ ((rd_T34 l0_0 x23_1).f3) _ _ x8_1 _ _ l1 a2 t197 false _ ?side1 ?side2 ?side3 ?side4 ?side5 ?side6 A24.out).mono ?_);(case side1 => repeat (first|exact (Kd.C_below HR196_3.out HB.out)|(with_reducible refine Kd.C_alloc ?_ _)|(with_reducible refine Kd.C_drewN ?_ _)|(with_reducible refine Kd.C_drew ?_)));(case side2 => exact HC196_3.out);(case side3 => repeat (first|exact (Kd.R_reads' HO_8.out).2.2|(with_reducible refine Kd.C_alloc ?_ _)|(with_reducible refine Kd.C_drewN ?_ _)|(with_reducible refine Kd.C_drew ?_)));(case side4 => exact (Kd.R_reads' HO_8.out).2.1);(case side5 => repeat (first|exact (Kd.C_below HR1.out HB.out)|(with_reducible refine Kd.C_alloc ?_ _)|(with_reducible refine Kd.C_drewN ?_ _)|(with_reducible refine Kd.C_drew ?_)));(case side6 => exact HC1.out);rintro e w40 ⟨rfl,hb⟩;refine ⟨_,rfl,?_⟩;have n0_:=zm_ (Kd.R_below zt4_4 hb);have n1_:=zm_ (Kd.R_below zt4_3 hb);have n2_:=zm_ (blk_below (g:=gb186) (o:=.cells #[.slice (some ad196) l0_0.length c0_0] 28 (0,0)) zt4_2 hb);have n3_:=zm_ (below_step zt4_1 hb);clear HO_8;clear HO_21;clear BK186;clear HB;have HO_8:=n0_;have HO_21:=n1_;have BK186:=n2_;have HB:=n3_;clear n0_ n1_ n2_ n3_;(try clear hb)))
            go_ret2
            exact ⟨zE_,by repeat (first|(with_reducible first|exact HB.out|apply za_|apply zn_|apply zd_|refine zs_ ?_ GE186.out)|exact HB.out)⟩
          ·rw [if_neg c23] at H
           exact absurd H (by simp)
         ·replace c22:=Bool.eq_false_iff.mpr c22
          subst c22
          have H1 : (impl_EvalExpr.l0 k1 l1 a2 x8_1 t191 (t191.length : Int) (wrap64 (x23_1 + 1)) l0_0) = some (r1,r2):=by rw [if_neg (show ¬ (false = true) by decide)] at H;exact H
          clear H
          have H:=H1
          clear H1
          have H':=zm_ H
          clear H
          have p195 : 0 ≤ (x23_1 : Int):=zo_
          have q195 : x23_1 < (t191.length : Int):=zo_
          obtain ⟨ad195,e195,hx195_0⟩:=Kd.at_bool (Kd.R_reads' HO_21.out).2.2 x23_1 p195 q195
          (try rw [← Nbq21.out] at hx195_0)
          cases e195
          replace p195:=eq_true p195
          replace q195:=eq_true q195
          go_wp2
          go_roundg k1
          case measure => have:=HK1.out;omega
          case rel => exact ⟨(x8_1),(wrap64 (x23_1 + 1)),zV_,H',⟨by have:=HK1.out;omega⟩,⟨by (with_reducible repeat (first|apply Kd.R_alloc|apply Kd.R_drewN|apply Kd.R_drew));exact HO_8.out⟩,⟨by (with_reducible repeat (first|apply Kd.R_alloc|apply Kd.R_drewN|apply Kd.R_drew));exact HO_21.out⟩,⟨by (with_reducible repeat first|refine zl_ ?_ _|refine zr_ ?_|refine zk_ ?_ _);exact BK186.out⟩,⟨by repeat (first|(with_reducible first|exact HB.out|apply za_|apply zn_|apply zd_|refine zs_ ?_ GE186.out)|exact HB.out)⟩⟩
        ·rw [if_neg c20] at H
         exact absurd H (by simp)
       ·rw [if_neg c19] at H
        exact absurd H (by simp)
      ·rw [if_neg c18] at H
       have c18b0 : decide (x23_1 < (t191.length : Int)) = false:=decide_eq_false c18
       clear c18
       obtain ⟨ji41,hji41⟩ : ∃ j_ : Int,(wrap64 ((x8_1.length : Int) - 1)) = j_:=⟨_,rfl⟩
       replace H : (if 0 ≤ (ji41) then (if (ji41) < (x8_1.length : Int) then (some (rd x8_1 (ji41),true)) else (none)) else (none)) = some (r1,r2):=by first|(rw [hji41] at H;exact H)|(simp only [hji41] at H ⊢;exact H)
       have hji41w : (IntKind.i64.wrap ((x8_1.length : Int) - 1)) = ji41:=(i64_w _).trans hji41
       by_cases c42 : 0 ≤ (ji41)
       ·rw [if_pos c42] at H
        have c42b0 : decide (0 ≤ (ji41)) = true:=decide_eq_true c42
        clear c42
        by_cases c43 : (ji41) < (x8_1.length : Int)
        ·rw [if_pos c43] at H
         have c43b0 : decide ((ji41) < (x8_1.length : Int)) = true:=decide_eq_true c43
         clear c43
         simp only [Option.some.injEq,Prod.mk.injEq] at H
         obtain ⟨rfl,rfl⟩:=H
         obtain ⟨Ao44,co44,eo44⟩:=Kd.R_slice HO_8.out
         subst eo44
         have p194 : 0 ≤ ((ji41) : Int):=zo_
         have q194 : (ji41) < (x8_1.length : Int):=zo_
         obtain ⟨ad194,e194,hx194_0⟩:=Kd.at_int (Kd.R_reads' HO_8.out).2.2 (ji41) p194 q194
         cases e194
         replace p194:=eq_true p194
         replace q194:=eq_true q194
         go_wp2
         go_ret2
         exact ⟨by first|rfl|(simp [errW_none,errW_some] <;> rfl)|(simp only [← hji41];first|rfl|(simp [errW_none,errW_some] <;> rfl))|(simp [*,errW_none,errW_some] <;> rfl),by repeat (first|(with_reducible first|exact HB.out|apply za_|apply zn_|apply zd_|refine zs_ ?_ GE186.out)|exact HB.out)⟩
        ·rw [if_neg c43] at H
         exact absurd H (by simp)
       ·rw [if_neg c42] at H
        exact absurd H (by simp)
   ·rw [if_neg c7] at H
    exact absurd H (by simp)
  ·rw [if_neg c6] at H
   exact absurd H (by simp)
 ·replace c5:=Bool.eq_false_iff.mpr c5
  subst c5
  have H1 : (some (0,false)) = some (r1,r2):=by rw [if_neg (show ¬ (false = true) by decide)] at H;exact H
  clear H
  have H:=H1
  clear H1
  simp only [Option.some.injEq,Prod.mk.injEq] at H
  obtain ⟨rfl,rfl⟩:=H
  go_enter Try.func12,Try.ntmps12
  go_wp2_with (first|((with_reducible refine gate_dst (N:=3) rfl ?_);refine box_event ?hg (N:=3) ?hd (cs:=#[.slice A0_0 l0_0.length c0_0]) (t:=28) ?hr ?_;(case hd => rfl);(case hg => rfl);(case hr => first|(go_simp;done)|(go_simp;rfl));intro gb186 hg w45 hbox hb;have n0_:=zm_ (below_step zB_ hb);have n1_:=zm_ (hbox);have n2_:=zm_ ((by rw [hg];exact (below_size zB_) : w.heap.size ≤ gb186));have n3_:=zm_ ((by rw [hg];exact (below_size zB_) : w.heap.size ≤ gb186));clear HB;have HB:=n0_;have BK186:=n1_;have GW186:=n2_;have GE186:=n3_;clear n0_ n1_ n2_ n3_;clear hb hbox hg;have hcz46_0 : w45.cell? ⟨gb186,0,none⟩ = some (.slice A0_0 l0_0.length c0_0):=(zc_ BK186.out 0).trans rfl;have hfz46_0:=zf_ BK186.out 0)|((with_reducible refine gate_callee (f:=14) rfl ?_);refine goesL_ (some 14) rfl rfl Try.func14 (by kernel_rfl) rfl #[.agg #[.slice A0_0 l0_0.length c0_0]] rfl zq_ ?_;(with_reducible refine (impl_ExprOk.calls k _ _ l0_0 false _ ?side1 ?side2 A4.out).mono ?_);(case side1 => repeat (first|exact (Kd.C_below HR0_0.out HB.out)|(with_reducible refine Kd.C_alloc ?_ _)|(with_reducible refine Kd.C_drewN ?_ _)|(with_reducible refine Kd.C_drew ?_)));(case side2 => exact HC0_0.out);rintro e w47 ⟨rfl,hb⟩;refine ⟨_,rfl,?_⟩;have n0_:=zm_ (blk_below (g:=gb186) (o:=.cells #[.slice A0_0 l0_0.length c0_0] 28 (0,0)) zt4_2 hb);have n1_:=zm_ (below_step zt4_1 hb);clear BK186;clear HB;have BK186:=n0_;have HB:=n1_;clear n0_ n1_;(try clear hb)))
  go_ret2
  exact ⟨zE_,by repeat (first|(with_reducible first|exact HB.out|apply za_|apply zn_|apply zd_|refine zs_ ?_ GE186.out)|exact HB.out)⟩

def spec_l04Kids.j0 : Nat → Int → Bool → Option (Int)
 |0,_,_ => none
 |k + 1,x3,x4 => if x4 = true then (some 0) else (if x3 = 11 then (some 1) else (some 2))
def spec_l04Kids.f (k : Nat) (a0 : Int) : Option (Int):=if a0 = 1 then (spec_l04Kids.j0 k a0 (a0 == 1)) else (if a0 = 2 then (spec_l04Kids.j0 k a0 (a0 == 2)) else (spec_l04Kids.j0 k a0 (a0 == 3)))
theorem spec_l04Kids.mono_l : ∀ k,(∀ y0 y1,LeO (spec_l04Kids.j0 k y0 y1) (spec_l04Kids.j0 (k + 1) y0 y1))
 |0 => fun _ _ r h => by simp [spec_l04Kids.j0] at h
 |k + 1 => by
  have ih0:=spec_l04Kids.mono_l k
  ·intro y0 y1
   unfold spec_l04Kids.j0
   repeat' first
   |(with_reducible exact ih0 _ _)
   |(with_reducible exact LeO.refl _)
   |(with_reducible exact LeO.none _)
   |(with_reducible refine LeO.ite ?_ ?_)
   |(with_reducible refine LeO.bind ?_ (fun _ => ?_))
theorem spec_l04Kids.mono : ∀ a0 k,LeO (spec_l04Kids.f k a0) (spec_l04Kids.f (k + 1) a0):=by
 intro a0 k
 have ih0:=spec_l04Kids.mono_l k
 unfold spec_l04Kids.f
 repeat' first
   |(with_reducible exact ih0 _ _)
   |(with_reducible exact LeO.refl _)
   |(with_reducible exact LeO.none _)
   |(with_reducible refine LeO.ite ?_ ?_)
   |(with_reducible refine LeO.bind ?_ (fun _ => ?_))
set_option maxHeartbeats 8000000 in
set_option maxRecDepth 100000 in
theorem spec_l04Kids.calls (k : Nat) (a0 : Int) (r : Int) (w : World) (h : spec_l04Kids.f k a0 = some r) :
  Calls Try.prog 51 #[.int .i64 a0] w fun e w' => e = .returned (.int .i64 r) ∧ Drawn0 w w':=by
 have H : (if a0 = 1 then (spec_l04Kids.j0 k a0 (a0 == 1)) else (if a0 = 2 then (spec_l04Kids.j0 k a0 (a0 == 2)) else (spec_l04Kids.j0 k a0 (a0 == 3)))) = some r:=h
 clear h
 have HC2:=zm_ H
 clear H
 go_enter Try.func51,Try.ntmps51
 go_upto_if 4 with (fail)
 go_cut [4] (fun v4 wc => ∃ (kq : Nat) (x4_1 : Bool),v4 = .bool x4_1 ∧ Aside0 (spec_l04Kids.j0 kq a0 x4_1 = some r) ∧ Aside0 (kq ≤ k) ∧ Drawn0 w wc)
 case first =>
  have H:=HC2.out
  clear HC2
  by_cases c3 : a0 = 1
  ·rw [if_pos c3] at H
   have c3b0 : (a0 == 1) = true:=beq_iff_eq.mpr c3
   have c3b1 : (a0 != 1) = false:=bne_eq_false_iff_eq.mpr c3
   clear c3
   (first|rw [c3b0]|(simp only [i64_w,i32_w];rw [c3b0])|skip)
   have H':=zm_ H
   clear H
   go_wp2
   go_meet
   case rel => exact ⟨_,((a0 == 1)),zV_,H',⟨by first|omega|exact Nat.le_refl _⟩,by repeat (first|exact Drawn0.refl _|apply Drawn0.step)⟩
  ·rw [if_neg c3] at H
   have c3b0 : (a0 == 1) = false:=beq_eq_false_iff_ne.mpr c3
   have c3b1 : (a0 != 1) = true:=bne_iff_ne.mpr c3
   (first|rw [c3b0]|(simp only [i64_w,i32_w];rw [c3b0])|skip)
   by_cases c4 : a0 = 2
   ·rw [if_pos c4] at H
    have c4b0 : (a0 == 2) = true:=beq_iff_eq.mpr c4
    have c4b1 : (a0 != 2) = false:=bne_eq_false_iff_eq.mpr c4
    clear c4
    have H':=zm_ H
    clear H
    go_wp2
    go_meet
    case rel => exact ⟨_,((a0 == 2)),zV_,H',⟨by first|omega|exact Nat.le_refl _⟩,by repeat (first|exact Drawn0.refl _|apply Drawn0.step)⟩
   ·rw [if_neg c4] at H
    have c4b0 : (a0 == 2) = false:=beq_eq_false_iff_ne.mpr c4
    have c4b1 : (a0 != 2) = true:=bne_iff_ne.mpr c4
    have H':=zm_ H
    clear H
    go_wp2
    go_meet
    case rel => exact ⟨_,((a0 == 3)),zV_,H',⟨by first|omega|exact Nat.le_refl _⟩,by repeat (first|exact Drawn0.refl _|apply Drawn0.step)⟩
 case rest =>
  clear HC2
  try clear p2
  try clear c3
  try clear c3b0
  try clear c3b1
  try clear c4
  try clear c4b0
  try clear c4b1
  obtain ⟨kq,x4_1,rfl,HA,HJ1,⟨mc1,rfl⟩⟩:=hcut
  cases kq with
  |zero => exact absurd HA.out (by simp [spec_l04Kids.j0])
  |succ kj1 =>
   have H:=HA.out
   clear HA
   simp only [spec_l04Kids.j0] at H
   by_cases c5 : x4_1 = true
   ·subst c5
    have H1 : (some 0) = some r:=by rw [if_pos rfl] at H;exact H
    clear H
    have H:=H1
    clear H1
    obtain rfl:=Option.some.inj H
    go_wp2
    go_ret
    exact ⟨by first|rfl|(simp;done)|(simp [*];done),by repeat (first|exact Drawn0.refl _|apply Drawn0.step)⟩
   ·replace c5:=Bool.eq_false_iff.mpr c5
    subst c5
    have H1 : (if a0 = 11 then (some 1) else (some 2)) = some r:=by rw [if_neg (show ¬ (false = true) by decide)] at H;exact H
    clear H
    have H:=H1
    clear H1
    by_cases c6 : a0 = 11
    ·rw [if_pos c6] at H
     have c6b0 : (a0 == 11) = true:=beq_iff_eq.mpr c6
     have c6b1 : (a0 != 11) = false:=bne_eq_false_iff_eq.mpr c6
     clear c6
     obtain rfl:=Option.some.inj H
     go_wp2
     go_ret
     exact ⟨by first|rfl|(simp;done)|(simp [*];done),by repeat (first|exact Drawn0.refl _|apply Drawn0.step)⟩
    ·rw [if_neg c6] at H
     have c6b0 : (a0 == 11) = false:=beq_eq_false_iff_ne.mpr c6
     have c6b1 : (a0 != 11) = true:=bne_iff_ne.mpr c6
     obtain rfl:=Option.some.inj H
     go_wp2
     go_ret
     exact ⟨by first|rfl|(simp;done)|(simp [*];done),by repeat (first|exact Drawn0.refl _|apply Drawn0.step)⟩

def spec_l01PickInt.f (s0_0 : List Int) (s0_1 : Int) (s0_2 : Int) (l1 : List Int) : Option (Int × Int × Int):=(spec_l01Below.f s0_0 s0_1 s0_2 (l1.length : Int)).bind fun bt201 => (if 0 ≤ bt201.1 then (if bt201.1 < (l1.length : Int) then (some (rd l1 bt201.1,bt201.2.1,bt201.2.2)) else (none)) else (none))
set_option maxHeartbeats 8000000 in
set_option maxRecDepth 100000 in
theorem spec_l01PickInt.calls (g : Nat) (s0_0 : List Int) (s0_1 : Int) (s0_2 : Int) (A1 : Option Addr) (c1 : Nat) (l1 : List Int) (r1 : Int) (r2 : Int) (r3 : Int) (w0 w : World) (hI : IsS109 w0 w g s0_0 s0_1 s0_2) (hB : Below w0.heap.size w0 w) (hr1 : Kd.C (Kd.int .i64) w A1 l1.length l1) (hc1 : l1.length ≤ c1) (hf1 : ∀ ad,A1 = some ad → 0 < l1.length → ad.block ≠ g) (h : spec_l01PickInt.f s0_0 s0_1 s0_2 l1 = some (r1,r2,r3)) :
  Calls Try.prog 77 #[.pointer (some ⟨g,0,none⟩),.slice A1 l1.length c1] w fun e w' => e = .returned (.int .i64 r1) ∧ IsS109 w0 w' g s0_0 r2 r3 ∧ Below w0.heap.size w0 w' ∧ KeepBut w w' g none:=by
 have HR1:=zm_ hr1
 have HC1:=zm_ hc1
 clear hr1 hc1
 have HI0:=zm_ hI
 have HK:=zm_ (KeepBut.refl w g none)
 have HL:=zm_ hB.size
 clear hI
 have HW0:=zm_ hB.size
 have HB:=zm_ hB
 clear hB
 have H : ((spec_l01Below.f s0_0 s0_1 s0_2 (l1.length : Int)).bind fun bt201 => (if 0 ≤ bt201.1 then (if bt201.1 < (l1.length : Int) then (some (rd l1 bt201.1,bt201.2.1,bt201.2.2)) else (none)) else (none))) = some (r1,r2,r3):=h
 clear h
 replace H:=Option.bind_eq_some_iff.mp H
 obtain ⟨⟨t201,t202,t203⟩,A30,H⟩:=H
 replace H : (if 0 ≤ t201 then (if t201 < (l1.length : Int) then (some (rd l1 t201,t202,t203)) else (none)) else (none)) = some (r1,r2,r3):=H
 have A3:=zm_ A30
 clear A30
 by_cases c4 : 0 ≤ t201
 ·rw [if_pos c4] at H
  have c4b0 : decide (0 ≤ t201) = true:=decide_eq_true c4
  clear c4
  by_cases c5 : t201 < (l1.length : Int)
  ·rw [if_pos c5] at H
   have c5b0 : decide (t201 < (l1.length : Int)) = true:=decide_eq_true c5
   clear c5
   simp only [Option.some.injEq,Prod.mk.injEq] at H
   obtain ⟨rfl,rfl,rfl⟩:=H
   go_enter Try.func77,Try.ntmps77
   go_wp2_with (first|((with_reducible refine gate_callee (f:=43) rfl ?_);refine goesL_ (some 9) rfl rfl Try.func43 (by kernel_rfl) rfl #[.pointer (some ⟨g,0,none⟩),.int .i64 (l1.length : Int)] rfl zq_ ?_;(with_reducible refine (spec_l01Below.calls g s0_0 s0_1 s0_2 (l1.length : Int) t201 t202 t203 w0 _ ?side1 ?side2 A3.out).mono ?_);(case side1 => repeat (first|(with_reducible first|exact HI0.out|apply IsS109.alloc|apply IsS109.drewN|apply IsS109.drew|apply IsS109.set_1|apply IsS109.set_2)|exact HI0.out));(case side2 => repeat (first|(with_reducible first|exact HB.out|apply za_|apply zn_|apply zd_|refine zs_ ?_ (IsS109.ge HI0.out))|exact HB.out));rintro e w6 ⟨rfl,hi,hb,hk⟩;refine ⟨_,rfl,?_⟩;have n0_:=zm_ (KeepBut.trans (by repeat (first|(with_reducible first|exact HK.out|apply KeepBut.set_|apply keep_drewN|apply keep_drew|apply keep_alloc)|exact HK.out)) hk (.inl rfl));have n1_:=zm_ (hb);have n2_:=zm_ (hi);clear HK;clear HB;clear HI0;have HK:=n0_;have HB:=n1_;have HI0:=n2_;clear n0_ n1_ n2_;(try clear hb);(try clear hb2);(try clear hk);(try clear hi);have p204 : 0 ≤ (t201 : Int):=zo_;have q204 : t201 < (l1.length : Int):=zo_;obtain ⟨ad204,e204,hx204_0⟩:=Kd.at_int HR1.out t201 p204 q204;cases e204;replace hx204_0:=keep_cell HK.out hx204_0 (by first|(rw [add_block];exact hf1 _ rfl (by omega))|exact hf1 _ rfl (by omega)|exact hf1 ad204 rfl (by omega));replace p204:=eq_true p204;replace q204:=eq_true q204))
   go_ret
   exact ⟨zE_,by repeat (first|(with_reducible first|exact HI0.out|apply IsS109.alloc|apply IsS109.drewN|apply IsS109.drew|apply IsS109.set_1|apply IsS109.set_2)|exact HI0.out),by repeat (first|(with_reducible first|exact HB.out|apply za_|apply zn_|apply zd_|refine zs_ ?_ (IsS109.ge HI0.out))|exact HB.out),by repeat (first|(with_reducible first|exact HK.out|apply KeepBut.set_|apply keep_drewN|apply keep_drew|apply keep_alloc)|exact HK.out)⟩
  ·rw [if_neg c5] at H
   exact absurd H (by simp)
 ·rw [if_neg c4] at H
  exact absurd H (by simp)

def spec_l01Once.f (s0_0 : List Int) (s0_1 : Int) (s0_2 : Int) (a1 : Int) : Option (Bool × Int × Int):=(spec_l01Below.f s0_0 s0_1 s0_2 a1).bind fun bt205 => (some ((bt205.1 == 0),bt205.2.1,bt205.2.2))
set_option maxHeartbeats 8000000 in
set_option maxRecDepth 100000 in
theorem spec_l01Once.calls (g : Nat) (s0_0 : List Int) (s0_1 : Int) (s0_2 : Int) (a1 : Int) (r1 : Bool) (r2 : Int) (r3 : Int) (w0 w : World) (hI : IsS109 w0 w g s0_0 s0_1 s0_2) (hB : Below w0.heap.size w0 w) (h : spec_l01Once.f s0_0 s0_1 s0_2 a1 = some (r1,r2,r3)) :
  Calls Try.prog 96 #[.pointer (some ⟨g,0,none⟩),.int .i64 a1] w fun e w' => e = .returned (.bool r1) ∧ IsS109 w0 w' g s0_0 r2 r3 ∧ Below w0.heap.size w0 w' ∧ KeepBut w w' g none:=by
 have HI0:=zm_ hI
 have HK:=zm_ (KeepBut.refl w g none)
 have HL:=zm_ hB.size
 clear hI
 have HW0:=zm_ hB.size
 have HB:=zm_ hB
 clear hB
 have H : ((spec_l01Below.f s0_0 s0_1 s0_2 a1).bind fun bt205 => (some ((bt205.1 == 0),bt205.2.1,bt205.2.2))) = some (r1,r2,r3):=h
 clear h
 replace H:=Option.bind_eq_some_iff.mp H
 obtain ⟨⟨t205,t206,t207⟩,A30,H⟩:=H
 replace H : (some ((t205 == 0),t206,t207)) = some (r1,r2,r3):=H
 have A3:=zm_ A30
 clear A30
 simp only [Option.some.injEq,Prod.mk.injEq] at H
 obtain ⟨rfl,rfl,rfl⟩:=H
 go_enter Try.func96,Try.ntmps96
 go_wp2_with (first|((with_reducible refine gate_callee (f:=43) rfl ?_);refine goesL_ (some 7) rfl rfl Try.func43 (by kernel_rfl) rfl #[.pointer (some ⟨g,0,none⟩),.int .i64 a1] rfl zq_ ?_;(with_reducible refine (spec_l01Below.calls g s0_0 s0_1 s0_2 a1 t205 t206 t207 w0 _ ?side1 ?side2 A3.out).mono ?_);(case side1 => repeat (first|(with_reducible first|exact HI0.out|apply IsS109.alloc|apply IsS109.drewN|apply IsS109.drew|apply IsS109.set_1|apply IsS109.set_2)|exact HI0.out));(case side2 => repeat (first|(with_reducible first|exact HB.out|apply za_|apply zn_|apply zd_|refine zs_ ?_ (IsS109.ge HI0.out))|exact HB.out));rintro e w4 ⟨rfl,hi,hb,hk⟩;refine ⟨_,rfl,?_⟩;have n0_:=zm_ (KeepBut.trans (by repeat (first|(with_reducible first|exact HK.out|apply KeepBut.set_|apply keep_drewN|apply keep_drew|apply keep_alloc)|exact HK.out)) hk (.inl rfl));have n1_:=zm_ (hb);have n2_:=zm_ (hi);clear HK;clear HB;clear HI0;have HK:=n0_;have HB:=n1_;have HI0:=n2_;clear n0_ n1_ n2_;(try clear hb);(try clear hb2);(try clear hk);(try clear hi)))
 go_ret
 exact ⟨zE_,by repeat (first|(with_reducible first|exact HI0.out|apply IsS109.alloc|apply IsS109.drewN|apply IsS109.drew|apply IsS109.set_1|apply IsS109.set_2)|exact HI0.out),by repeat (first|(with_reducible first|exact HB.out|apply za_|apply zn_|apply zd_|refine zs_ ?_ (IsS109.ge HI0.out))|exact HB.out),by repeat (first|(with_reducible first|exact HK.out|apply KeepBut.set_|apply keep_drewN|apply keep_drew|apply keep_alloc)|exact HK.out)⟩


end Go.Proofs.Ytnmhggdaccbbfaa.MFnExprs
