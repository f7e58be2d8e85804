import Derived.Test.YtnmhggdaccbbfaaMFnExprFreex0
import Derived.Test.YtnmhggdaccbbfaaMFnExprFreex2
import Derived.Test.YtnmhggdaccbbfaaMFnExprFreex3
namespace Go.Proofs.Ytnmhggdaccbbfaa.MFnExprFree
open Go.RowKit Go.Proofs.YtnmhggdaccbbfaaW.PrintWords Go.Proofs.YtnmhggdaccbbfaaW.PrintLast Go.Proofs.YtnmhggdaccbbfaaW.PrintMore
attribute [local go_sem] max2_int min2_int max_two min_two max_three min_three max_four min_four
set_option linter.unusedVariables false
set_option linter.unusedSimpArgs false
theorem zt4_6 {p : Prop} (h : p := by (with_reducible repeat (first|apply Kd.R_alloc|apply Kd.R_drewN|apply Kd.R_drew));exact HO_8.out) : p := h
theorem zt4_5 {p : Prop} (h : p := by rw [hg];exact (below_size (by repeat (first|(with_reducible first|exact HBW.out|apply za_|apply zn_|apply zd_)|exact HBW.out)))) : p := h
theorem zt4_4 {p : Prop} (h : p := by (with_reducible repeat (first|apply Kd.R_alloc|apply Kd.R_drewN|apply Kd.R_drew));exact HO_21.out) : p := h
theorem zt4_3 {p : Prop} (h : p := by (with_reducible repeat first|refine zl_ ?_ _|refine zr_ ?_|refine zk_ ?_ _);exact BK151.out) : p := h
theorem zt4_2 {p : Prop} (h : p := by repeat (first|(with_reducible first|exact HK.out|apply KeepBut.set_|apply keep_drewN|apply keep_drew|apply keep_alloc)|exact HK.out)) : p := h
theorem zt4_1 {p : Prop} (h : p := by repeat (first|(with_reducible first|exact HB.out|apply za_|apply zn_|apply zd_|refine zs_ ?_ GE151.out)|exact HB.out)) : p := h

def impl_EvalExpr.l0 : Nat → List (S87) → Int → List Int → List Bool → Int → Int → List (S34) → Option (Int × Bool)
 |0,_,_,_,_,_,_,_ => none
 |k + 1,x1,x2,x8,x21,x22,x23,x152000 => if x23 < x22 then (if 0 ≤ x23 then (if x23 < (x21.length : Int) then (if rdOf false x21 x23 = true then (if x23 < (x152000.length : Int) then ((impl_evalNode.f k ((rd_T34 x152000 x23).f0) ((rd_T34 x152000 x23).f1) ((rd_T34 x152000 x23).f2) ((rd_T34 x152000 x23).f3) x8 x1 x2).bind fun bt162 => (if bt162.2 = true then ((impl_isNum.f bt162.1).bind fun t164 => (if t164 = true then (if x23 < (x8.length : Int) then (impl_EvalExpr.l0 k x1 x2 (x8.set (x23 : Int).toNat bt162.1) x21 x22 (wrap64 (x23 + 1)) x152000) else (none)) else (some (0,false)))) else (some (0,false)))) else (none)) else (impl_EvalExpr.l0 k x1 x2 x8 x21 x22 (wrap64 (x23 + 1)) x152000)) else (none)) else (none)) else (if 0 ≤ (wrap64 ((x8.length : Int) - 1)) then (if (wrap64 ((x8.length : Int) - 1)) < (x8.length : Int) then (some (rd x8 (wrap64 ((x8.length : Int) - 1)),true)) else (none)) else (none))
def impl_EvalExpr.f (k : Nat) (l0_0 : List (S34)) (l1 : List (S87)) (a2 : Int) : Option (Int × Bool):=(impl_ExprOk.f k l0_0).bind fun t152 => (if t152 = true then (if 0 ≤ (l0_0.length : Int) then (if ((l0_0.length : Int) : Int).toNat ≤ 35184372088832 then ((impl_reachedNodes.f k l0_0).bind fun t156 => (impl_EvalExpr.l0 k l1 a2 (List.replicate ((l0_0.length : Int) : Int).toNat 0) t156 (t156.length : Int) 0 l0_0)) else (none)) else (none)) else (some (0,false)))
theorem impl_EvalExpr.mono_l : ∀ k,(∀ y0 y1 y2 y3 y4 y5 y6,LeO (impl_EvalExpr.l0 k y0 y1 y2 y3 y4 y5 y6) (impl_EvalExpr.l0 (k + 1) y0 y1 y2 y3 y4 y5 y6))
 |0 => fun _ _ _ _ _ _ _ r h => by simp [impl_EvalExpr.l0] at h
 |k + 1 => by
  have ih0:=impl_EvalExpr.mono_l k
  ·intro y0 y1 y2 y3 y4 y5 y6
   unfold impl_EvalExpr.l0
   repeat' first
   |(with_reducible exact ih0 _ _ _ _ _ _ _)
   |(with_reducible exact impl_ExprOk.mono _ _)
   |(with_reducible exact impl_evalNode.mono _ _ _ _ _ _ _ _)
   |(with_reducible exact impl_reachedNodes.mono _ _)
   |(with_reducible exact LeO.refl _)
   |(with_reducible exact LeO.none _)
   |(with_reducible refine LeO.ite ?_ ?_)
   |(with_reducible refine LeO.bind ?_ (fun _ => ?_))
theorem impl_EvalExpr.mono : ∀ a0 a1 a2 k,LeO (impl_EvalExpr.f k a0 a1 a2) (impl_EvalExpr.f (k + 1) a0 a1 a2):=by
 intro a0 a1 a2 k
 have ih0:=impl_EvalExpr.mono_l k
 unfold impl_EvalExpr.f
 repeat' first
   |(with_reducible exact ih0 _ _ _ _ _ _ _)
   |(with_reducible exact impl_ExprOk.mono _ _)
   |(with_reducible exact impl_evalNode.mono _ _ _ _ _ _ _ _)
   |(with_reducible exact impl_reachedNodes.mono _ _)
   |(with_reducible exact LeO.refl _)
   |(with_reducible exact LeO.none _)
   |(with_reducible refine LeO.ite ?_ ?_)
   |(with_reducible refine LeO.bind ?_ (fun _ => ?_))
set_option maxHeartbeats 8000000 in
set_option maxRecDepth 100000 in
theorem impl_EvalExpr.calls (k : Nat) (A0_0 : Option Addr) (c0_0 : Nat) (l0_0 : List (S34)) (A1 : Option Addr) (c1 : Nat) (l1 : List (S87)) (a2 : Int) (r1 : Int) (r2 : Bool) (w : World) (hr0_0 : Kd.C k34 w A0_0 l0_0.length l0_0) (hc0_0 : l0_0.length ≤ c0_0) (hr1 : Kd.C k87 w A1 l1.length l1) (hc1 : l1.length ≤ c1) (h : impl_EvalExpr.f k l0_0 l1 a2 = some (r1,r2)) :
  Calls Try.prog 12 #[.agg #[.slice A0_0 l0_0.length c0_0],.slice A1 l1.length c1,.int .i64 a2] w fun e w' => e = .returned (.tuple #[.int .i64 r1,.bool r2]) ∧ Below w.heap.size w w':=by
 have hu28:=Try.underlying28
 have hu34:=Try.underlying34
 have HR0_0:=zm_ hr0_0
 have HC0_0:=zm_ hc0_0
 clear hr0_0 hc0_0
 have HR1:=zm_ hr1
 have HC1:=zm_ hc1
 clear hr1 hc1
 have HB:=zm_ (Below.refl w.heap.size w)
 have H : ((impl_ExprOk.f k l0_0).bind fun t152 => (if t152 = true then (if 0 ≤ (l0_0.length : Int) then (if ((l0_0.length : Int) : Int).toNat ≤ 35184372088832 then ((impl_reachedNodes.f k l0_0).bind fun t156 => (impl_EvalExpr.l0 k l1 a2 (List.replicate ((l0_0.length : Int) : Int).toNat 0) t156 (t156.length : Int) 0 l0_0)) else (none)) else (none)) else (some (0,false)))) = some (r1,r2):=h
 clear h
 replace H:=Option.bind_eq_some_iff.mp H
 obtain ⟨t152,A40,H⟩:=H
 replace H : (if t152 = true then (if 0 ≤ (l0_0.length : Int) then (if ((l0_0.length : Int) : Int).toNat ≤ 35184372088832 then ((impl_reachedNodes.f k l0_0).bind fun t156 => (impl_EvalExpr.l0 k l1 a2 (List.replicate ((l0_0.length : Int) : Int).toNat 0) t156 (t156.length : Int) 0 l0_0)) else (none)) else (none)) else (some (0,false))) = some (r1,r2):=H
 have A4:=zm_ A40
 clear A40
 by_cases c5 : t152 = true
 ·subst c5
  have H1 : (if 0 ≤ (l0_0.length : Int) then (if ((l0_0.length : Int) : Int).toNat ≤ 35184372088832 then ((impl_reachedNodes.f k l0_0).bind fun t156 => (impl_EvalExpr.l0 k l1 a2 (List.replicate ((l0_0.length : Int) : Int).toNat 0) t156 (t156.length : Int) 0 l0_0)) else (none)) else (none)) = some (r1,r2):=by rw [if_pos rfl] at H;exact H
  clear H
  have H:=H1
  clear H1
  by_cases c6 : 0 ≤ (l0_0.length : Int)
  ·rw [if_pos c6] at H
   have c6b0:=eq_true c6
   have c6b1 : decide (0 ≤ (l0_0.length : Int)) = true:=decide_eq_true c6
   clear c6
   by_cases c7 : ((l0_0.length : Int) : Int).toNat ≤ 35184372088832
   ·rw [if_pos c7] at H
    have c7b0:=eq_true c7
    have c7b1 : decide (((l0_0.length : Int) : Int).toNat ≤ 35184372088832) = true:=decide_eq_true c7
    clear c7
    obtain ⟨y153,hy153⟩ : ∃ y_ : List Int,y_ = (List.replicate ((l0_0.length : Int) : Int).toNat 0):=⟨_,rfl⟩
    replace H : ((impl_reachedNodes.f k l0_0).bind fun t156 => (impl_EvalExpr.l0 k l1 a2 y153 t156 (t156.length : Int) 0 l0_0)) = some (r1,r2):=by first|(rw [hy153];with_reducible exact H)|(have H2_:=(Option.bind_some _ _).symm.trans H;rw [hy153];with_reducible exact H2_)|(have H2_:=(Option.bind_some _ _).symm.trans H;with_reducible exact H2_)|with_reducible exact H|(rw [hy153];exact H)|exact H
    have Ny153:=zm_ hy153
    clear hy153
    replace H:=Option.bind_eq_some_iff.mp H
    obtain ⟨t156,A80,H⟩:=H
    replace H : (impl_EvalExpr.l0 k l1 a2 y153 t156 (t156.length : Int) 0 l0_0) = some (r1,r2):=H
    have A8:=zm_ A80
    clear A80
    have H':=zm_ H
    clear H
    go_enter Try.func12,Try.ntmps12
    go_wp2_with (first|((with_reducible refine gate_dst (N:=3) rfl ?_);refine box_event ?hg (N:=3) ?hd (cs:=#[.slice A0_0 l0_0.length c0_0]) (t:=28) ?hr ?_;(case hd => rfl);(case hg => rfl);(case hr => first|(go_simp;done)|(go_simp;rfl));intro gb151 hg w9 hbox hb;have n0_:=zm_ (below_step zB_ hb);have n1_:=zm_ (hbox);have n2_:=zm_ ((by rw [hg];exact (below_size zB_) : w.heap.size ≤ gb151));have n3_:=zm_ ((by rw [hg];exact (below_size zB_) : w.heap.size ≤ gb151));clear HB;have HB:=n0_;have BK151:=n1_;have GW151:=n2_;have GE151:=n3_;clear n0_ n1_ n2_ n3_;clear hb hbox hg;have hcz10_0 : w9.cell? ⟨gb151,0,none⟩ = some (.slice A0_0 l0_0.length c0_0):=(zc_ BK151.out 0).trans rfl;have hfz10_0:=zf_ BK151.out 0)|((with_reducible refine gate_callee (f:=14) rfl ?_);refine goesL_ (some 14) rfl rfl Try.func14 (by kernel_rfl) rfl #[.agg #[.slice A0_0 l0_0.length c0_0]] rfl zq_ ?_;(with_reducible refine (impl_ExprOk.calls k _ _ l0_0 true _ ?side1 ?side2 A4.out).mono ?_);(case side1 => repeat (first|exact (Kd.C_below HR0_0.out HB.out)|(with_reducible refine Kd.C_alloc ?_ _)|(with_reducible refine Kd.C_drewN ?_ _)|(with_reducible refine Kd.C_drew ?_)));(case side2 => exact HC0_0.out);rintro e w11 ⟨rfl,hb⟩;refine ⟨_,rfl,?_⟩;have n0_:=zm_ (blk_below (g:=gb151) (o:=.cells #[.slice A0_0 l0_0.length c0_0] 28 (0,0)) zt4_3 hb);have n1_:=zm_ (below_step zt4_1 hb);clear BK151;clear HB;have BK151:=n0_;have HB:=n1_;clear n0_ n1_;(try clear hb);have hcz12_0 : w11.cell? ⟨gb151,0,none⟩ = some (.slice A0_0 l0_0.length c0_0):=(zc_ BK151.out 0).trans rfl;have hfz12_0:=zf_ BK151.out 0)|((with_reducible refine gate_dst (N:=19) rfl ?_);refine Kd.R_make (Kd.int .i64) _ 3 rfl (N:=19) rfl 24 _ _ rfl (l0_0.length : Int) rfl rfl Try.underlying24 (.int .i64 0) 8 info3 rfl (by decide) (by omega) 0 (ok:=fun _ => True) (okp:=fun _ => True) rfl (fun _ hk => hk) trivial (zo_) (Nat.le_trans (Nat.mul_le_mul_right _ (zo_ : (l0_0.length : Int).toNat ≤ 35184372088832)) (by omega)) (Below.refl _ _) (Nat.le_refl _) ?_;intro v154 w13 ho14 hb hg_ hnew_;clear hg_ hnew_;(first|rw [← Ny153.out] at ho14|(simp only [Int.reduceToNat] at ho14;rw [← Ny153.out] at ho14));have n0_:=zm_ (Kd.R_lower ho14 (below_size zt4_1));have n1_:=zm_ (blk_below (g:=gb151) (o:=.cells #[.slice A0_0 l0_0.length c0_0] 28 (0,0)) zt4_3 hb);have n2_:=zm_ (below_step zt4_1 hb);clear BK151;clear HB;have HO155:=n0_;have BK151:=n1_;have HB:=n2_;clear n0_ n1_ n2_;clear hb ho14;have hcz15_0 : w13.cell? ⟨gb151,0,none⟩ = some (.slice A0_0 l0_0.length c0_0):=(zc_ BK151.out 0).trans rfl;have hfz15_0:=zf_ BK151.out 0)|((with_reducible refine gate_callee (f:=44) rfl ?_);refine goesL_ (some 21) rfl rfl Try.func44 (by kernel_rfl) rfl #[.agg #[.slice A0_0 l0_0.length c0_0]] rfl zq_ ?_;(with_reducible refine (impl_reachedNodes.calls k _ _ l0_0 t156 _ ?side1 ?side2 A8.out).mono ?_);(case side1 => repeat (first|exact (Kd.C_below HR0_0.out HB.out)|(with_reducible refine Kd.C_alloc ?_ _)|(with_reducible refine Kd.C_drewN ?_ _)|(with_reducible refine Kd.C_drew ?_)));(case side2 => exact HC0_0.out);rintro e w16 ⟨v157,rfl,ho0,hb⟩;refine ⟨_,rfl,?_⟩;have n0_:=zm_ (Kd.R_below (by (with_reducible repeat (first|apply Kd.R_alloc|apply Kd.R_drewN|apply Kd.R_drew));exact HO155.out) hb);have n1_:=zm_ (Kd.R_lower ho0 (below_size zt4_1));have n2_:=zm_ (blk_below (g:=gb151) (o:=.cells #[.slice A0_0 l0_0.length c0_0] 28 (0,0)) zt4_3 hb);have n3_:=zm_ (below_step zt4_1 hb);clear HO155;clear BK151;clear HB;have HO155:=n0_;have HO158:=n1_;have BK151:=n2_;have HB:=n3_;clear n0_ n1_ n2_ n3_;(try clear hb);(try clear hb2);(try clear hk);(try clear hi);(try clear ho0);obtain ⟨Ao17,co17,eo17⟩:=Kd.R_slice HO158.out;subst eo17))
    go_loopg [23] k (fun kq v23 w' => ∃ (x8_1 : List Int) (x23_1 : Int),v23 = .int .i64 x23_1 ∧ Aside0 (impl_EvalExpr.l0 kq l1 a2 x8_1 t156 (t156.length : Int) x23_1 l0_0 = some (r1,r2)) ∧ Aside0 (kq ≤ k) ∧ Aside0 (Kd.R (Kd.int .i64) 3 w' w.heap.size (fun _ => True) v154 x8_1) ∧ Aside0 (Kd.R Kd.bool 4 w' w.heap.size (fun _ => True) (.slice Ao17 t156.length co17) t156) ∧ Aside0 (w'.heap[gb151]? = some (.cells #[(.slice A0_0 l0_0.length c0_0)] 28 (0,0))) ∧ Aside0 (Below w.heap.size w w'))
    case atStart => exact ⟨(y153),(0),zV_,H',⟨Nat.le_refl _⟩,⟨by (with_reducible repeat (first|apply Kd.R_alloc|apply Kd.R_drewN|apply Kd.R_drew));exact HO155.out⟩,⟨by (with_reducible repeat (first|apply Kd.R_alloc|apply Kd.R_drewN|apply Kd.R_drew));exact HO158.out⟩,⟨by (with_reducible repeat first|refine zl_ ?_ _|refine zr_ ?_|refine zk_ ?_ _);exact BK151.out⟩,⟨by repeat (first|(with_reducible first|exact HB.out|apply za_|apply zn_|apply zd_|refine zs_ ?_ GE151.out)|exact HB.out)⟩⟩
    case round =>
     clear H'
     try clear c1
     try clear p2
     try clear c4
     try clear c5
     try clear c6
     try clear c6b0
     try clear c6b1
     try clear c7
     try clear c7b0
     try clear c7b1
     try clear c12
     try clear c14
     try clear hcz10_0
     try clear hcz12_0
     try clear hcz15_0
     try clear hfz10_0
     try clear hfz12_0
     try clear hfz15_0
     obtain ⟨x8_1,x23_1,rfl,HA,HK1,HO_8,HO_21,BK151,HB⟩:=hrel
     cases gk with
     |zero => exact absurd HA.out (by simp [impl_EvalExpr.l0])
     |succ k1 =>
      have H:=HA.out
      clear HA
      simp only [impl_EvalExpr.l0] at H
      by_cases c18 : x23_1 < (t156.length : Int)
      ·rw [if_pos c18] at H
       have c18b0 : decide (x23_1 < (t156.length : Int)) = true:=decide_eq_true c18
       clear c18
       by_cases c19 : 0 ≤ x23_1
       ·rw [if_pos c19] at H
        have c19b0 : decide (0 ≤ x23_1) = true:=decide_eq_true c19
        clear c19
        by_cases c20 : x23_1 < (t156.length : Int)
        ·rw [if_pos c20] at H
         have c20b0 : decide (x23_1 < (t156.length : Int)) = true:=decide_eq_true c20
         clear c20
         obtain ⟨bq21,hbq21⟩ : ∃ b_ : Bool,b_ = (rdOf false t156 x23_1):=⟨_,rfl⟩
         replace H : (if bq21 = true then (if x23_1 < (l0_0.length : Int) then ((impl_evalNode.f k1 ((rd_T34 l0_0 x23_1).f0) ((rd_T34 l0_0 x23_1).f1) ((rd_T34 l0_0 x23_1).f2) ((rd_T34 l0_0 x23_1).f3) x8_1 l1 a2).bind fun bt162 => (if bt162.2 = true then ((impl_isNum.f bt162.1).bind fun t164 => (if t164 = true then (if x23_1 < (x8_1.length : Int) then (impl_EvalExpr.l0 k1 l1 a2 (x8_1.set (x23_1 : Int).toNat bt162.1) t156 (t156.length : Int) (wrap64 (x23_1 + 1)) l0_0) else (none)) else (some (0,false)))) else (some (0,false)))) else (none)) else (impl_EvalExpr.l0 k1 l1 a2 x8_1 t156 (t156.length : Int) (wrap64 (x23_1 + 1)) l0_0)) = some (r1,r2):=by rw [← hbq21] at H;exact H
         have Nbq21:=zm_ hbq21
         clear hbq21
         by_cases c22 : bq21 = true
         ·subst c22
          have H1 : (if x23_1 < (l0_0.length : Int) then ((impl_evalNode.f k1 ((rd_T34 l0_0 x23_1).f0) ((rd_T34 l0_0 x23_1).f1) ((rd_T34 l0_0 x23_1).f2) ((rd_T34 l0_0 x23_1).f3) x8_1 l1 a2).bind fun bt162 => (if bt162.2 = true then ((impl_isNum.f bt162.1).bind fun t164 => (if t164 = true then (if x23_1 < (x8_1.length : Int) then (impl_EvalExpr.l0 k1 l1 a2 (x8_1.set (x23_1 : Int).toNat bt162.1) t156 (t156.length : Int) (wrap64 (x23_1 + 1)) l0_0) else (none)) else (some (0,false)))) else (some (0,false)))) else (none)) = some (r1,r2):=by rw [if_pos rfl] at H;exact H
          clear H
          have H:=H1
          clear H1
          by_cases c23 : x23_1 < (l0_0.length : Int)
          ·rw [if_pos c23] at H
           have c23b0 : decide (x23_1 < (l0_0.length : Int)) = true:=decide_eq_true c23
           clear c23
           replace H:=Option.bind_eq_some_iff.mp H
           obtain ⟨⟨t162,t163⟩,A240,H⟩:=H
           replace H : (if t163 = true then ((impl_isNum.f t162).bind fun t164 => (if t164 = true then (if x23_1 < (x8_1.length : Int) then (impl_EvalExpr.l0 k1 l1 a2 (x8_1.set (x23_1 : Int).toNat t162) t156 (t156.length : Int) (wrap64 (x23_1 + 1)) l0_0) else (none)) else (some (0,false)))) else (some (0,false))) = some (r1,r2):=H
           have A24:=zm_ A240
           clear A240
           by_cases c25 : t163 = true
           ·subst c25
            have H1 : ((impl_isNum.f t162).bind fun t164 => (if t164 = true then (if x23_1 < (x8_1.length : Int) then (impl_EvalExpr.l0 k1 l1 a2 (x8_1.set (x23_1 : Int).toNat t162) t156 (t156.length : Int) (wrap64 (x23_1 + 1)) l0_0) else (none)) else (some (0,false)))) = some (r1,r2):=by rw [if_pos rfl] at H;exact H
            clear H
            have H:=H1
            clear H1
            replace H:=Option.bind_eq_some_iff.mp H
            obtain ⟨t164,A260,H⟩:=H
            replace H : (if t164 = true then (if x23_1 < (x8_1.length : Int) then (impl_EvalExpr.l0 k1 l1 a2 (x8_1.set (x23_1 : Int).toNat t162) t156 (t156.length : Int) (wrap64 (x23_1 + 1)) l0_0) else (none)) else (some (0,false))) = some (r1,r2):=H
            have A26:=zm_ A260
            clear A260
            by_cases c27 : t164 = true
            ·subst c27
             have H1 : (if x23_1 < (x8_1.length : Int) then (impl_EvalExpr.l0 k1 l1 a2 (x8_1.set (x23_1 : Int).toNat t162) t156 (t156.length : Int) (wrap64 (x23_1 + 1)) l0_0) else (none)) = some (r1,r2):=by rw [if_pos rfl] at H;exact H
             clear H
             have H:=H1
             clear H1
             by_cases c28 : x23_1 < (x8_1.length : Int)
             ·rw [if_pos c28] at H
              have c28b0 : decide (x23_1 < (x8_1.length : Int)) = true:=decide_eq_true c28
              clear c28
              obtain ⟨y165,hy165⟩ : ∃ y_ : List Int,y_ = (x8_1.set (x23_1 : Int).toNat t162):=⟨_,rfl⟩
              replace H : (impl_EvalExpr.l0 k1 l1 a2 y165 t156 (t156.length : Int) (wrap64 (x23_1 + 1)) l0_0) = some (r1,r2):=by first|(rw [hy165];with_reducible exact H)|(have H2_:=(Option.bind_some _ _).symm.trans H;rw [hy165];with_reducible exact H2_)|(have H2_:=(Option.bind_some _ _).symm.trans H;with_reducible exact H2_)|with_reducible exact H|(rw [hy165];exact H)|exact H
              have Ny165:=zm_ hy165
              clear hy165
              have H':=zm_ H
              clear H
              have p160 : 0 ≤ (x23_1 : Int):=zo_
              have q160 : x23_1 < (t156.length : Int):=zo_
              obtain ⟨ad160,e160,hx160_0⟩:=Kd.at_bool (Kd.R_reads' HO_21.out).2.2 x23_1 p160 q160
              (try rw [← Nbq21.out] at hx160_0)
              cases e160
              replace p160:=eq_true p160
              replace q160:=eq_true q160
              have hcz30_0 : wr.cell? ⟨gb151,0,none⟩ = some (.slice A0_0 l0_0.length c0_0):=(zc_ BK151.out 0).trans rfl
              have hfz30_0:=zf_ BK151.out 0
              have p161 : 0 ≤ (x23_1 : Int):=zo_
              have q161 : x23_1 < (l0_0.length : Int):=zo_
              obtain ⟨ad161,A161_3,c161_3,e161,hx161_0,hx161_1,hx161_2,hx161_3,hl161_3,hi161_3⟩:=at_T34 HR0_0.out x23_1 p161 q161
              cases e161
              replace hx161_0:=(HB.out.cell (zb_ w _ hx161_0)).trans hx161_0
              replace hx161_1:=(HB.out.cell (zb_ w _ hx161_1)).trans hx161_1
              replace hx161_2:=(HB.out.cell (zb_ w _ hx161_2)).trans hx161_2
              replace hx161_3:=(HB.out.cell (zb_ w _ hx161_3)).trans hx161_3
              have HR161_3:=zm_ hi161_3
              have HC161_3:=zm_ hl161_3
              clear hi161_3 hl161_3
              replace p161:=eq_true p161
              replace q161:=eq_true q161
              obtain ⟨Ao31,co31,eo31⟩:=Kd.R_slice HO_8.out
              subst eo31
              go_wp2_with (first|((with_reducible refine gate_callee (f:=45) rfl ?_);refine goesL_ (some 39) rfl rfl Try.func45 (by kernel_rfl) rfl #[.agg #[.int .i64 ((rd_T34 l0_0 x23_1).f0),.int .i64 ((rd_T34 l0_0 x23_1).f1),.string ((rd_T34 l0_0 x23_1).f2),.slice A161_3 ((rd_T34 l0_0 x23_1).f3).length c161_3],.slice Ao31 x8_1.length co31,.slice A1 l1.length c1,.int .i64 a2] rfl zq_ ?_;(with_reducible refine (impl_evalNode.calls k1 ((rd_T34 l0_0 x23_1).f0) ((rd_T34 l0_0 x23_1).f1) ((rd_T34 l0_0 x23_1).f2) _ _ ((rd_T34 l0_0 x23_1).f3) _ _ x8_1 _ _ l1 a2 t162 true _ ?side1 ?side2 ?side3 ?side4 ?side5 ?side6 A24.out).mono ?_);(case side1 => repeat (first|exact (Kd.C_below HR161_3.out HB.out)|(with_reducible refine Kd.C_alloc ?_ _)|(with_reducible refine Kd.C_drewN ?_ _)|(with_reducible refine Kd.C_drew ?_)));(case side2 => exact HC161_3.out);(case side3 => repeat (first|exact (Kd.R_reads' HO_8.out).2.2|(with_reducible refine Kd.C_alloc ?_ _)|(with_reducible refine Kd.C_drewN ?_ _)|(with_reducible refine Kd.C_drew ?_)));(case side4 => exact (Kd.R_reads' HO_8.out).2.1);(case side5 => repeat (first|exact (Kd.C_below HR1.out HB.out)|(with_reducible refine Kd.C_alloc ?_ _)|(with_reducible refine Kd.C_drewN ?_ _)|(with_reducible refine Kd.C_drew ?_)));(case side6 => exact HC1.out);rintro e w32 ⟨rfl,hb⟩;refine ⟨_,rfl,?_⟩;have n0_:=zm_ (Kd.R_below zt4_6 hb);have n1_:=zm_ (Kd.R_below zt4_4 hb);have n2_:=zm_ (blk_below (g:=gb151) (o:=.cells #[.slice (some ad161) l0_0.length c0_0] 28 (0,0)) zt4_3 hb);have n3_:=zm_ (below_step zt4_1 hb);clear HO_8;clear HO_21;clear BK151;clear HB;have HO_8:=n0_;have HO_21:=n1_;have BK151:=n2_;have HB:=n3_;clear n0_ n1_ n2_ n3_;(try clear hb))|(go_at_call 46;(with_reducible refine (impl_isNum.calls t162 true _ A26.out).mono ?_);rintro e w' ⟨rfl,⟨nd,rfl⟩⟩;(try (rw [drewN_self w32];generalize hq_ : World.drewN w32 _ = w32;have n0_ : Aside0 (Kd.R Kd.bool 4 w32 w.heap.size (fun _ => True) (.slice (some ad160) t156.length co17) t156):=⟨by rw [← hq_];exact zt4_4⟩;have n1_ : Aside0 (Kd.R (Kd.int .i64) 3 w32 w.heap.size (fun _ => True) (.slice Ao31 x8_1.length co31) x8_1):=⟨by rw [← hq_];exact zt4_6⟩;have n2_ : Aside0 (w32.heap[gb151]? = some (.cells #[.slice (some ad161) l0_0.length c0_0] 28 (0,0))):=⟨by rw [← hq_];exact zt4_3⟩;have n3_ : Aside0 (Below w.heap.size w w32):=⟨by rw [← hq_];exact zt4_1⟩;clear HO_21 HO_8 BK151 HB hq_;have HO_21:=n0_;have HO_8:=n1_;have BK151:=n2_;have HB:=n3_;clear n0_ n1_ n2_ n3_));have p29 : 0 ≤ (x23_1 : Int):=zo_;have q29 : (x23_1 : Int) < ((x8_1.length : Int) : Int):=zo_;obtain ⟨go29,co29,eo29,gb29,gl29,cl29,HG29⟩:=Kd.R_form HO_8.out (by omega);(first|cases eo29|(injection eo29 with ea_ en_ ec_;(first|subst ea_|(injection ea_ with ea_;subst ea_));subst ec_;clear en_));have GB29:=zm_ gb29;have GG29:=zm_ HG29;clear gb29 gl29 HG29;obtain ⟨hx29_0,hf29_0⟩:=Kd.R_celln 0 HO_8.out (x23_1 : Int) p29 q29;replace p29:=eq_true p29;replace q29:=eq_true q29;obtain ⟨hy33_,hz33_⟩:=Kd.R_celln 0 HO_8.out (x23_1 : Int) (zo_) (zo_);have HP33:=Kd.R_putg HO_8.out (x23_1 : Int) t162)|((with_reducible refine gate_store (t:=3) (p:=52) rfl ?_);refine store_event (t:=3) (p:=52) (v:=?vo_w34) (w1:=(w32.setCell ⟨go29,(x23_1 : Int).toNat,none⟩ (.int .i64 t162))) ?hg ?ho ?hn ?hr ?_;(case ho => rfl);(case hg => rfl);(case hn => rfl);(case hr => first|(go_simp;done)|(go_simp;rfl));intro w34 hw;have hg : w32.grownBy w34 (some go29):=(by rw [hw];exact HP33.2);have hp_ : Kd.R (Kd.int .i64) 3 w34 w.heap.size (fun _ => True) (.slice (some ⟨go29,0,none⟩) x8_1.length co31) y165:=(by rw [hw,Ny165.out];exact HP33.1);clear HP33;have n0_:=zm_ (hp_);have n1_:=zm_ (Kd.R_over' (v:=(.slice (some ⟨go29,0,none⟩) x8_1.length co31)) zt4_4 (Kd.R_typed HO_8.out) (by decide) hg);have n2_:=zm_ (blk_grown (g:=gb151) (o:=.cells #[.slice (some ad161) l0_0.length c0_0] 28 (0,0)) zt4_3 hg (Kd.R_ne HO_8.out BK151.out (by decide)));have n3_:=zm_ ((by rw [hw];exact zs_ (HB.out) GB29.out : Below w.heap.size w w34));clear HO_8;clear HO_21;clear BK151;clear HB;have HO_8:=n0_;have HO_21:=n1_;have BK151:=n2_;have HB:=n3_;clear n0_ n1_ n2_ n3_;clear hg hw hp_))
              go_roundg k1
              case measure => have:=HK1.out;omega
              case rel => exact ⟨(y165),(wrap64 (x23_1 + 1)),zV_,H',⟨by have:=HK1.out;omega⟩,⟨by (with_reducible repeat (first|apply Kd.R_alloc|apply Kd.R_drewN|apply Kd.R_drew));exact HO_8.out⟩,⟨by (with_reducible repeat (first|apply Kd.R_alloc|apply Kd.R_drewN|apply Kd.R_drew));exact HO_21.out⟩,⟨by (with_reducible repeat first|refine zl_ ?_ _|refine zr_ ?_|refine zk_ ?_ _);exact BK151.out⟩,⟨by repeat (first|(with_reducible first|exact HB.out|apply za_|apply zn_|apply zd_|refine zs_ ?_ GE151.out)|exact HB.out)⟩⟩
             ·rw [if_neg c28] at H
              exact absurd H (by simp)
            ·replace c27:=Bool.eq_false_iff.mpr c27
             subst c27
             have H1 : (some (0,false)) = some (r1,r2):=by rw [if_neg (show ¬ (false = true) by decide)] at H;exact H
             clear H
             have H:=H1
             clear H1
             simp only [Option.some.injEq,Prod.mk.injEq] at H
             obtain ⟨rfl,rfl⟩:=H
             have p160 : 0 ≤ (x23_1 : Int):=zo_
             have q160 : x23_1 < (t156.length : Int):=zo_
             obtain ⟨ad160,e160,hx160_0⟩:=Kd.at_bool (Kd.R_reads' HO_21.out).2.2 x23_1 p160 q160
             (try rw [← Nbq21.out] at hx160_0)
             cases e160
             replace p160:=eq_true p160
             replace q160:=eq_true q160
             have hcz35_0 : wr.cell? ⟨gb151,0,none⟩ = some (.slice A0_0 l0_0.length c0_0):=(zc_ BK151.out 0).trans rfl
             have hfz35_0:=zf_ BK151.out 0
             have p161 : 0 ≤ (x23_1 : Int):=zo_
             have q161 : x23_1 < (l0_0.length : Int):=zo_
             obtain ⟨ad161,A161_3,c161_3,e161,hx161_0,hx161_1,hx161_2,hx161_3,hl161_3,hi161_3⟩:=at_T34 HR0_0.out x23_1 p161 q161
             cases e161
             replace hx161_0:=(HB.out.cell (zb_ w _ hx161_0)).trans hx161_0
             replace hx161_1:=(HB.out.cell (zb_ w _ hx161_1)).trans hx161_1
             replace hx161_2:=(HB.out.cell (zb_ w _ hx161_2)).trans hx161_2
             replace hx161_3:=(HB.out.cell (zb_ w _ hx161_3)).trans hx161_3
             have HR161_3:=zm_ hi161_3
             have HC161_3:=zm_ hl161_3
             clear hi161_3 hl161_3
             replace p161:=eq_true p161
             replace q161:=eq_true q161
             obtain ⟨Ao36,co36,eo36⟩:=Kd.R_slice HO_8.out
             subst eo36
             go_wp2_with (first|((with_reducible refine gate_callee (f:=45) rfl ?_);refine goesL_ (some 39) rfl rfl Try.func45 (by kernel_rfl) rfl #[.agg #[.int .i64 ((rd_T34 l0_0 x23_1).f0),.int .i64 ((rd_T34 l0_0 x23_1).f1),.string ((rd_T34 l0_0 x23_1).f2),.slice A161_3 ((rd_T34 l0_0 x23_1).f3).length c161_3],.slice Ao36 x8_1.length co36,.slice A1 l1.length c1,.int .i64 a2] rfl zq_ ?_;(with_reducible refine (impl_evalNode.calls k1 ((rd_T34 l0_0 x23_1).f0) ((rd_T34 l0_0 x23_1).f1) ((rd_T34 l0_0 x23_1).f2) _ _ ((rd_T34 l0_0 x23_1).f3) _ _ x8_1 _ _ l1 a2 t162 true _ ?side1 ?side2 ?side3 ?side4 ?side5 ?side6 A24.out).mono ?_);(case side1 => repeat (first|exact (Kd.C_below HR161_3.out HB.out)|(with_reducible refine Kd.C_alloc ?_ _)|(with_reducible refine Kd.C_drewN ?_ _)|(with_reducible refine Kd.C_drew ?_)));(case side2 => exact HC161_3.out);(case side3 => repeat (first|exact (Kd.R_reads' HO_8.out).2.2|(with_reducible refine Kd.C_alloc ?_ _)|(with_reducible refine Kd.C_drewN ?_ _)|(with_reducible refine Kd.C_drew ?_)));(case side4 => exact (Kd.R_reads' HO_8.out).2.1);(case side5 => repeat (first|exact (Kd.C_below HR1.out HB.out)|(with_reducible refine Kd.C_alloc ?_ _)|(with_reducible refine Kd.C_drewN ?_ _)|(with_reducible refine Kd.C_drew ?_)));(case side6 => exact HC1.out);rintro e w37 ⟨rfl,hb⟩;refine ⟨_,rfl,?_⟩;have n0_:=zm_ (Kd.R_below zt4_6 hb);have n1_:=zm_ (Kd.R_below zt4_4 hb);have n2_:=zm_ (blk_below (g:=gb151) (o:=.cells #[.slice (some ad161) l0_0.length c0_0] 28 (0,0)) zt4_3 hb);have n3_:=zm_ (below_step zt4_1 hb);clear HO_8;clear HO_21;clear BK151;clear HB;have HO_8:=n0_;have HO_21:=n1_;have BK151:=n2_;have HB:=n3_;clear n0_ n1_ n2_ n3_;(try clear hb))|(go_at_call 46;(with_reducible refine (impl_isNum.calls t162 false _ A26.out).mono ?_);rintro e w' ⟨rfl,⟨nd,rfl⟩⟩))
             go_ret2
             exact ⟨zE_,by repeat (first|(with_reducible first|exact HB.out|apply za_|apply zn_|apply zd_|refine zs_ ?_ GE151.out)|exact HB.out)⟩
           ·replace c25:=Bool.eq_false_iff.mpr c25
            subst c25
            have H1 : (some (0,false)) = some (r1,r2):=by rw [if_neg (show ¬ (false = true) by decide)] at H;exact H
            clear H
            have H:=H1
            clear H1
            simp only [Option.some.injEq,Prod.mk.injEq] at H
            obtain ⟨rfl,rfl⟩:=H
            have p160 : 0 ≤ (x23_1 : Int):=zo_
            have q160 : x23_1 < (t156.length : Int):=zo_
            obtain ⟨ad160,e160,hx160_0⟩:=Kd.at_bool (Kd.R_reads' HO_21.out).2.2 x23_1 p160 q160
            (try rw [← Nbq21.out] at hx160_0)
            cases e160
            replace p160:=eq_true p160
            replace q160:=eq_true q160
            have hcz38_0 : wr.cell? ⟨gb151,0,none⟩ = some (.slice A0_0 l0_0.length c0_0):=(zc_ BK151.out 0).trans rfl
            have hfz38_0:=zf_ BK151.out 0
            have p161 : 0 ≤ (x23_1 : Int):=zo_
            have q161 : x23_1 < (l0_0.length : Int):=zo_
            obtain ⟨ad161,A161_3,c161_3,e161,hx161_0,hx161_1,hx161_2,hx161_3,hl161_3,hi161_3⟩:=at_T34 HR0_0.out x23_1 p161 q161
            cases e161
            replace hx161_0:=(HB.out.cell (zb_ w _ hx161_0)).trans hx161_0
            replace hx161_1:=(HB.out.cell (zb_ w _ hx161_1)).trans hx161_1
            replace hx161_2:=(HB.out.cell (zb_ w _ hx161_2)).trans hx161_2
            replace hx161_3:=(HB.out.cell (zb_ w _ hx161_3)).trans hx161_3
            have HR161_3:=zm_ hi161_3
            have HC161_3:=zm_ hl161_3
            clear hi161_3 hl161_3
            replace p161:=eq_true p161
            replace q161:=eq_true q161
            obtain ⟨Ao39,co39,eo39⟩:=Kd.R_slice HO_8.out
            subst eo39
            go_wp2_with (first|((with_reducible refine gate_callee (f:=45) rfl ?_);refine goesL_ (some 39) rfl rfl Try.func45 (by kernel_rfl) rfl #[.agg #[.int .i64 ((rd_T34 l0_0 x23_1).f0),.int .i64 ((rd_T34 l0_0 x23_1).f1),.string ((rd_T34 l0_0 x23_1).f2),.slice A161_3 ((rd_T34 l0_0 x23_1).f3).length c161_3],.slice Ao39 x8_1.length co39,.slice A1 l1.length c1,.int .i64 a2] rfl zq_ ?_;(with_reducible refine (impl_evalNode.calls k1 ((rd_T34 l0_0 x23_1).f0) ((rd_T34 l0_0 x23_1).f1) ((rd_T34 l0_0 x23_1).f2) _ _ ((rd_T34 l0_0 x23_1).f3) _ _ x8_1 _ _ l1 a2 t162 false _ ?side1 ?side2 ?side3 ?side4 ?side5 ?side6 A24.out).mono ?_);(case side1 => repeat (first|exact (Kd.C_below HR161_3.out HB.out)|(with_reducible refine Kd.C_alloc ?_ _)|(with_reducible refine Kd.C_drewN ?_ _)|(with_reducible refine Kd.C_drew ?_)));(case side2 => exact HC161_3.out);(case side3 => repeat (first|exact (Kd.R_reads' HO_8.out).2.2|(with_reducible refine Kd.C_alloc ?_ _)|(with_reducible refine Kd.C_drewN ?_ _)|(with_reducible refine Kd.C_drew ?_)));(case side4 => exact (Kd.R_reads' HO_8.out).2.1);(case side5 => repeat (first|exact (Kd.C_below HR1.out HB.out)|(with_reducible refine Kd.C_alloc ?_ _)|(with_reducible refine Kd.C_drewN ?_ _)|(with_reducible refine Kd.C_drew ?_)));(case side6 => exact HC1.out);rintro e w40 ⟨rfl,hb⟩;refine ⟨_,rfl,?_⟩;have n0_:=zm_ (Kd.R_below zt4_6 hb);have n1_:=zm_ (Kd.R_below zt4_4 hb);have n2_:=zm_ (blk_below (g:=gb151) (o:=.cells #[.slice (some ad161) l0_0.length c0_0] 28 (0,0)) zt4_3 hb);have n3_:=zm_ (below_step zt4_1 hb);clear HO_8;clear HO_21;clear BK151;clear HB;have HO_8:=n0_;have HO_21:=n1_;have BK151:=n2_;have HB:=n3_;clear n0_ n1_ n2_ n3_;(try clear hb)))
            go_ret2
            exact ⟨zE_,by repeat (first|(with_reducible first|exact HB.out|apply za_|apply zn_|apply zd_|refine zs_ ?_ GE151.out)|exact HB.out)⟩
          ·rw [if_neg c23] at H
           exact absurd H (by simp)
         ·replace c22:=Bool.eq_false_iff.mpr c22
          subst c22
          have H1 : (impl_EvalExpr.l0 k1 l1 a2 x8_1 t156 (t156.length : Int) (wrap64 (x23_1 + 1)) l0_0) = some (r1,r2):=by rw [if_neg (show ¬ (false = true) by decide)] at H;exact H
          clear H
          have H:=H1
          clear H1
          have H':=zm_ H
          clear H
          have p160 : 0 ≤ (x23_1 : Int):=zo_
          have q160 : x23_1 < (t156.length : Int):=zo_
          obtain ⟨ad160,e160,hx160_0⟩:=Kd.at_bool (Kd.R_reads' HO_21.out).2.2 x23_1 p160 q160
          (try rw [← Nbq21.out] at hx160_0)
          cases e160
          replace p160:=eq_true p160
          replace q160:=eq_true q160
          go_wp2
          go_roundg k1
          case measure => have:=HK1.out;omega
          case rel => exact ⟨(x8_1),(wrap64 (x23_1 + 1)),zV_,H',⟨by have:=HK1.out;omega⟩,⟨by (with_reducible repeat (first|apply Kd.R_alloc|apply Kd.R_drewN|apply Kd.R_drew));exact HO_8.out⟩,⟨by (with_reducible repeat (first|apply Kd.R_alloc|apply Kd.R_drewN|apply Kd.R_drew));exact HO_21.out⟩,⟨by (with_reducible repeat first|refine zl_ ?_ _|refine zr_ ?_|refine zk_ ?_ _);exact BK151.out⟩,⟨by repeat (first|(with_reducible first|exact HB.out|apply za_|apply zn_|apply zd_|refine zs_ ?_ GE151.out)|exact HB.out)⟩⟩
        ·rw [if_neg c20] at H
         exact absurd H (by simp)
       ·rw [if_neg c19] at H
        exact absurd H (by simp)
      ·rw [if_neg c18] at H
       have c18b0 : decide (x23_1 < (t156.length : Int)) = false:=decide_eq_false c18
       clear c18
       obtain ⟨ji41,hji41⟩ : ∃ j_ : Int,(wrap64 ((x8_1.length : Int) - 1)) = j_:=⟨_,rfl⟩
       replace H : (if 0 ≤ (ji41) then (if (ji41) < (x8_1.length : Int) then (some (rd x8_1 (ji41),true)) else (none)) else (none)) = some (r1,r2):=by first|(rw [hji41] at H;exact H)|(simp only [hji41] at H ⊢;exact H)
       have hji41w : (IntKind.i64.wrap ((x8_1.length : Int) - 1)) = ji41:=(i64_w _).trans hji41
       by_cases c42 : 0 ≤ (ji41)
       ·rw [if_pos c42] at H
        have c42b0 : decide (0 ≤ (ji41)) = true:=decide_eq_true c42
        clear c42
        by_cases c43 : (ji41) < (x8_1.length : Int)
        ·rw [if_pos c43] at H
         have c43b0 : decide ((ji41) < (x8_1.length : Int)) = true:=decide_eq_true c43
         clear c43
         simp only [Option.some.injEq,Prod.mk.injEq] at H
         obtain ⟨rfl,rfl⟩:=H
         obtain ⟨Ao44,co44,eo44⟩:=Kd.R_slice HO_8.out
         subst eo44
         have p159 : 0 ≤ ((ji41) : Int):=zo_
         have q159 : (ji41) < (x8_1.length : Int):=zo_
         obtain ⟨ad159,e159,hx159_0⟩:=Kd.at_int (Kd.R_reads' HO_8.out).2.2 (ji41) p159 q159
         cases e159
         replace p159:=eq_true p159
         replace q159:=eq_true q159
         go_wp2
         go_ret2
         exact ⟨by first|rfl|(simp [errW_none,errW_some] <;> rfl)|(simp only [← hji41];first|rfl|(simp [errW_none,errW_some] <;> rfl))|(simp [*,errW_none,errW_some] <;> rfl),by repeat (first|(with_reducible first|exact HB.out|apply za_|apply zn_|apply zd_|refine zs_ ?_ GE151.out)|exact HB.out)⟩
        ·rw [if_neg c43] at H
         exact absurd H (by simp)
       ·rw [if_neg c42] at H
        exact absurd H (by simp)
   ·rw [if_neg c7] at H
    exact absurd H (by simp)
  ·rw [if_neg c6] at H
   exact absurd H (by simp)
 ·replace c5:=Bool.eq_false_iff.mpr c5
  subst c5
  have H1 : (some (0,false)) = some (r1,r2):=by rw [if_neg (show ¬ (false = true) by decide)] at H;exact H
  clear H
  have H:=H1
  clear H1
  simp only [Option.some.injEq,Prod.mk.injEq] at H
  obtain ⟨rfl,rfl⟩:=H
  go_enter Try.func12,Try.ntmps12
  go_wp2_with (first|((with_reducible refine gate_dst (N:=3) rfl ?_);refine box_event ?hg (N:=3) ?hd (cs:=#[.slice A0_0 l0_0.length c0_0]) (t:=28) ?hr ?_;(case hd => rfl);(case hg => rfl);(case hr => first|(go_simp;done)|(go_simp;rfl));intro gb151 hg w45 hbox hb;have n0_:=zm_ (below_step zB_ hb);have n1_:=zm_ (hbox);have n2_:=zm_ ((by rw [hg];exact (below_size zB_) : w.heap.size ≤ gb151));have n3_:=zm_ ((by rw [hg];exact (below_size zB_) : w.heap.size ≤ gb151));clear HB;have HB:=n0_;have BK151:=n1_;have GW151:=n2_;have GE151:=n3_;clear n0_ n1_ n2_ n3_;clear hb hbox hg;have hcz46_0 : w45.cell? ⟨gb151,0,none⟩ = some (.slice A0_0 l0_0.length c0_0):=(zc_ BK151.out 0).trans rfl;have hfz46_0:=zf_ BK151.out 0)|((with_reducible refine gate_callee (f:=14) rfl ?_);refine goesL_ (some 14) rfl rfl Try.func14 (by kernel_rfl) rfl #[.agg #[.slice A0_0 l0_0.length c0_0]] rfl zq_ ?_;(with_reducible refine (impl_ExprOk.calls k _ _ l0_0 false _ ?side1 ?side2 A4.out).mono ?_);(case side1 => repeat (first|exact (Kd.C_below HR0_0.out HB.out)|(with_reducible refine Kd.C_alloc ?_ _)|(with_reducible refine Kd.C_drewN ?_ _)|(with_reducible refine Kd.C_drew ?_)));(case side2 => exact HC0_0.out);rintro e w47 ⟨rfl,hb⟩;refine ⟨_,rfl,?_⟩;have n0_:=zm_ (blk_below (g:=gb151) (o:=.cells #[.slice A0_0 l0_0.length c0_0] 28 (0,0)) zt4_3 hb);have n1_:=zm_ (below_step zt4_1 hb);clear BK151;clear HB;have BK151:=n0_;have HB:=n1_;clear n0_ n1_;(try clear hb)))
  go_ret2
  exact ⟨zE_,by repeat (first|(with_reducible first|exact HB.out|apply za_|apply zn_|apply zd_|refine zs_ ?_ GE151.out)|exact HB.out)⟩

/-- A state of type 109 at block g of W;what its slices lead to came in by w0. -/
def IsS109 (w0 W : World) (g : Nat) (f0 : List Int) (f1 : Int) (f2 : Int) : Prop:=∃ A0 c0,W.heap[g]? = some (.cells #[.slice A0 f0.length c0,.int .i64 f1,.int .i64 f2] 109 (0,0)) ∧ w0.heap.size ≤ g ∧ Kd.C (Kd.int .u8) w0 A0 f0.length f0
theorem IsS109.grown {w0 W : World} {g : Nat} {f0 : List Int} {f1 : Int} {f2 : Int} {W1 : World} {row : Option Nat} (h : IsS109 w0 W g f0 f1 f2) (hw : W.grownBy W1 row) (hne : some g ≠ row) : IsS109 w0 W1 g f0 f1 f2:=by
 obtain ⟨A0,c0,hb,hg,hr0⟩:=h
 exact ⟨A0,c0,blk_grown hb hw hne,hg,hr0⟩
theorem IsS109.own_neN {w0 W : World} {g : Nat} {f0 : List Int} {f1 : Int} {f2 : Int} {α : Type} {d : Kd α} {e : Nat} {base : Nat} {ok : Nat → Prop} {v : Value} {xs : List α} (h : IsS109 w0 W g f0 f1 f2) (ho : Kd.N d e W base ok v xs) (ht : e ≠ 109) : some g ≠ v.ownBlock:=by
 obtain ⟨A0,c0,hb,hg,hr0⟩:=h
 exact Kd.N_ne ho hb ht
theorem IsS109.fresh {w0 W : World} {g : Nat} {f0 : List Int} {f1 : Int} {f2 : Int} (h : IsS109 w0 W g f0 f1 f2) : ∀ k,W.heap.size ≤ k → k ≠ g:=by
 obtain ⟨A0,c0,hb,hg,hr0⟩:=h
 exact Kd.freshB hb
theorem IsS109.kept {w0 W : World} {g : Nat} {f0 : List Int} {f1 : Int} {f2 : Int} {W1 : World} {S : Nat → Prop} (h : IsS109 w0 W g f0 f1 f2) (hk : Kept W W1 S) (hne : ¬ S g) : IsS109 w0 W1 g f0 f1 f2:=by
 obtain ⟨A0,c0,hb,hg,hr0⟩:=h
 exact ⟨A0,c0,blk_kept hb hk hne,hg,hr0⟩
theorem IsS109.below {w0 W : World} {g : Nat} {f0 : List Int} {f1 : Int} {f2 : Int} {W1 : World} (h : IsS109 w0 W g f0 f1 f2) (hw : Below W.heap.size W W1) : IsS109 w0 W1 g f0 f1 f2:=h.grown (grown_of_below hw none) (by simp)
theorem IsS109.alloc {w0 W : World} {g : Nat} {f0 : List Int} {f1 : Int} {f2 : Int} (h : IsS109 w0 W g f0 f1 f2) (o : Obj) : IsS109 w0 (W.alloc o) g f0 f1 f2:=h.below (za_ (Below.refl _ _) o)
theorem IsS109.drewN {w0 W : World} {g : Nat} {f0 : List Int} {f1 : Int} {f2 : Int} (h : IsS109 w0 W g f0 f1 f2) (m : Nat) : IsS109 w0 (W.drewN m) g f0 f1 f2:=h
theorem IsS109.drew {w0 W : World} {g : Nat} {f0 : List Int} {f1 : Int} {f2 : Int} (h : IsS109 w0 W g f0 f1 f2) : IsS109 w0 W.drew g f0 f1 f2:=h
theorem IsS109.at_ {w0 W : World} {g : Nat} {f0 : List Int} {f1 : Int} {f2 : Int} {w' : World} {m : Nat} (hq : W.drewN m = w') (h : IsS109 w0 W g f0 f1 f2) : IsS109 w0 w' g f0 f1 f2:=by subst hq;exact IsS109.drewN h m
theorem IsS109.apart {w0 W : World} {g : Nat} {f0 : List Int} {f1 : Int} {f2 : Int} {α : Type} {d : Kd α} {e : Nat} {base : Nat} {ok : Nat → Prop} {v : Value} {xs : List α} (h : IsS109 w0 W g f0 f1 f2) (ho : d.R e W base ok v xs) (ht : ∀ q,q ∈ e :: d.E → q ≠ 109) : d.R e W base (fun k => ok k ∧ k ≠ g) v xs:=by
 obtain ⟨A0,c0,hb,hg,hr0⟩:=h
 exact Kd.R_types ho hb ht
theorem IsS109.own_ne {w0 W : World} {g : Nat} {f0 : List Int} {f1 : Int} {f2 : Int} {α : Type} {d : Kd α} {e : Nat} {base : Nat} {ok : Nat → Prop} {v : Value} {xs : List α} (h : IsS109 w0 W g f0 f1 f2) (ho : d.R e W base ok v xs) (ht : e ≠ 109) : some g ≠ v.ownBlock:=by
 obtain ⟨A0,c0,hb,hg,hr0⟩:=h
 exact Kd.R_ne ho hb ht
theorem IsS109.apartQ {w0 W : World} {g : Nat} {f0 : List Int} {f1 : Int} {f2 : Int} {α : Type} {d : Kd α} {e : Nat} {base : Nat} {ok : Nat → Prop} {v : Value} {xs : List α} (h : IsS109 w0 W g f0 f1 f2) (ho : d.Q e W base ok v xs) (ht : ∀ q,q ∈ e :: d.E → q ≠ 109) : d.Q e W base (fun k => ok k ∧ k ≠ g) v xs:=by
 obtain ⟨A0,c0,hb,hg,hr0⟩:=h
 exact Kd.Q_types ho hb ht
theorem IsS109.own_neQ {w0 W : World} {g : Nat} {f0 : List Int} {f1 : Int} {f2 : Int} {α : Type} {d : Kd α} {e : Nat} {base : Nat} {ok : Nat → Prop} {v : Value} {xs : List α} (h : IsS109 w0 W g f0 f1 f2) (ho : d.Q e W base ok v xs) (ht : e ≠ 109) : some g ≠ v.ownBlock:=by
 obtain ⟨A0,c0,hb,hg,hr0⟩:=h
 exact Kd.Q_ne ho hb ht
theorem IsS109.apartS {w0 W : World} {g : Nat} {f0 : List Int} {f1 : Int} {f2 : Int} {α : Type} {d : Kd α} {e : Nat} {base : Nat} {ok : Nat → Prop} {v : Value} {xs : List α} (h : IsS109 w0 W g f0 f1 f2) (ho : d.S e W base ok v xs) (ht : ∀ q,q ∈ e :: d.E → q ≠ 109) : d.S e W base (fun k => ok k ∧ k ≠ g) v xs:=by
 obtain ⟨A0,c0,hb,hg,hr0⟩:=h
 exact Kd.S_types ho hb ht
theorem IsS109.own_neS {w0 W : World} {g : Nat} {f0 : List Int} {f1 : Int} {f2 : Int} {α : Type} {d : Kd α} {e : Nat} {base : Nat} {ok : Nat → Prop} {v : Value} {xs : List α} (h : IsS109 w0 W g f0 f1 f2) (ho : d.S e W base ok v xs) (ht : e ≠ 109) : some g ≠ v.ownBlock:=by
 obtain ⟨A0,c0,hb,hg,hr0⟩:=h
 exact Kd.S_ne ho hb ht
theorem IsS109.lt {w0 W : World} {g : Nat} {f0 : List Int} {f1 : Int} {f2 : Int} (h : IsS109 w0 W g f0 f1 f2) : g < W.heap.size:=by
 obtain ⟨A0,c0,hb,hg,hr0⟩:=h
 exact blk_lt hb
theorem IsS109.ge {w0 W : World} {g : Nat} {f0 : List Int} {f1 : Int} {f2 : Int} (h : IsS109 w0 W g f0 f1 f2) : w0.heap.size ≤ g:=by
 obtain ⟨A0,c0,hb,hg,hr0⟩:=h
 exact hg
theorem IsS109.ne_blk {w0 W : World} {g : Nat} {f0 : List Int} {f1 : Int} {f2 : Int} {a : Nat} {cs : Array Value} {t : TypeId} {fr : Nat × Nat} (h : IsS109 w0 W g f0 f1 f2) (hb2 : W.heap[a]? = some (.cells cs t fr)) (ht : t ≠ 109) : g ≠ a:=by
 obtain ⟨A0,c0,hb,hg,hr0⟩:=h
 rintro rfl
 rw [hb] at hb2
 injection hb2 with hb2
 injection hb2 with _ ht2
 exact ht ht2.symm
theorem IsS109.far {w0 W : World} {g : Nat} {f0 : List Int} {f1 : Int} {f2 : Int} {p : Addr} (h : IsS109 w0 W g f0 f1 f2) (hne : g ≠ p.block) (u : Value) : IsS109 w0 (W.setCell p u) g f0 f1 f2:=by
 obtain ⟨A0,c0,hb,hg,hr0⟩:=h
 exact ⟨A0,c0,blk_far hb hne u,hg,hr0⟩
theorem cellS109_0 {W : World} {g : Nat} {A0 : Option Addr} {c0 : Nat} {f0 : List Int} {f1 : Int} {f2 : Int} (h : W.heap[g]? = some (.cells #[.slice A0 f0.length c0,.int .i64 f1,.int .i64 f2] 109 (0,0))) : W.cell? ⟨g,0,none⟩ = some (.slice A0 f0.length c0):=(zc_ h 0).trans rfl
theorem cellS109_1 {W : World} {g : Nat} {A0 : Option Addr} {c0 : Nat} {f0 : List Int} {f1 : Int} {f2 : Int} (h : W.heap[g]? = some (.cells #[.slice A0 f0.length c0,.int .i64 f1,.int .i64 f2] 109 (0,0))) : W.cell? ⟨g,1,none⟩ = some (.int .i64 f1):=(zc_ h 1).trans rfl
theorem IsS109.set_1 {w0 W : World} {g : Nat} {f0 : List Int} {f1 : Int} {f2 : Int} (h : IsS109 w0 W g f0 f1 f2) (x : Int) : IsS109 w0 (W.setCell ⟨g,1,none⟩ (.int .i64 x)) g f0 x f2:=by
 obtain ⟨A0,c0,hb,hg,hr0⟩:=h
 exact ⟨A0,c0,by simpa using blk_set hb 1 (.int .i64 x),hg,hr0⟩
theorem cellS109_2 {W : World} {g : Nat} {A0 : Option Addr} {c0 : Nat} {f0 : List Int} {f1 : Int} {f2 : Int} (h : W.heap[g]? = some (.cells #[.slice A0 f0.length c0,.int .i64 f1,.int .i64 f2] 109 (0,0))) : W.cell? ⟨g,2,none⟩ = some (.int .i64 f2):=(zc_ h 2).trans rfl
theorem IsS109.set_2 {w0 W : World} {g : Nat} {f0 : List Int} {f1 : Int} {f2 : Int} (h : IsS109 w0 W g f0 f1 f2) (x : Int) : IsS109 w0 (W.setCell ⟨g,2,none⟩ (.int .i64 x)) g f0 f1 x:=by
 obtain ⟨A0,c0,hb,hg,hr0⟩:=h
 exact ⟨A0,c0,by simpa using blk_set hb 2 (.int .i64 x),hg,hr0⟩
theorem IsS109.new (w0 W : World) (A0 : Option Addr) (c0 : Nat) (f0 : List Int) (f1 : Int) (f2 : Int) (hB : Below w0.heap.size w0 W) (hr0 : Kd.C (Kd.int .u8) w0 A0 f0.length f0) : IsS109 w0 (W.alloc (.cells #[.slice A0 f0.length c0,.int .i64 f1,.int .i64 f2] 109)) W.heap.size f0 f1 f2:=⟨A0,c0,by simpa using heap_alloc_new W _,hB.size,hr0⟩

def spec_l01New.l0 : Nat → List Int → Int → Int → Option (List Int × Int × Int)
 |0,_,_,_ => none
 |k + 1,x0,x3,x4 => if x4 < (x0.length : Int) then (if x4 < 4000 then (if 0 ≤ x4 then (spec_l01New.l0 k x0 (Go.bits .and .i64 (wrap64 ((wrap64 ((wrap64 (x3 * 131)) + (wrap64 (rd x0 x4)))) + 7)) 1073741823) (wrap64 (x4 + 1))) else (none)) else (some (x0,0,x3))) else (some (x0,0,x3))
def spec_l01New.f (k : Nat) (l0 : List Int) : Option (List Int × Int × Int):=spec_l01New.l0 k l0 (wrap64 (34601 + (l0.length : Int))) 0
theorem spec_l01New.mono_l : ∀ k,(∀ y0 y1 y2,LeO (spec_l01New.l0 k y0 y1 y2) (spec_l01New.l0 (k + 1) y0 y1 y2))
 |0 => fun _ _ _ r h => by simp [spec_l01New.l0] at h
 |k + 1 => by
  have ih0:=spec_l01New.mono_l k
  ·intro y0 y1 y2
   unfold spec_l01New.l0
   repeat' first
   |(with_reducible exact ih0 _ _ _)
   |(with_reducible exact LeO.refl _)
   |(with_reducible exact LeO.none _)
   |(with_reducible refine LeO.ite ?_ ?_)
   |(with_reducible refine LeO.bind ?_ (fun _ => ?_))
theorem spec_l01New.mono : ∀ a0 k,LeO (spec_l01New.f k a0) (spec_l01New.f (k + 1) a0):=by
 intro a0 k
 have ih0:=spec_l01New.mono_l k
 unfold spec_l01New.f
 repeat' first
   |(with_reducible exact ih0 _ _ _)
   |(with_reducible exact LeO.refl _)
   |(with_reducible exact LeO.none _)
   |(with_reducible refine LeO.ite ?_ ?_)
   |(with_reducible refine LeO.bind ?_ (fun _ => ?_))
set_option maxHeartbeats 8000000 in
set_option maxRecDepth 100000 in
theorem spec_l01New.calls (k : Nat) (A0 : Option Addr) (c0 : Nat) (l0 : List Int) (r1 : List Int) (r2 : Int) (r3 : Int) (w0 w : World) (hB : Below w0.heap.size w0 w) (hr0 : Kd.C (Kd.int .u8) w0 A0 l0.length l0) (hc0 : l0.length ≤ c0) (h : spec_l01New.f k l0 = some (r1,r2,r3)) :
  Calls Try.prog 41 #[.slice A0 l0.length c0] w fun e w' => ∃ g_ : Nat,e = .returned (.pointer (some ⟨g_,0,none⟩)) ∧ IsS109 w0 w' g_ r1 r2 r3 ∧ Below w0.heap.size w0 w' ∧ Below w.heap.size w w':=by
 have hu109:=Try.underlying109
 have HR0:=zm_ hr0
 have HC0:=zm_ hc0
 clear hr0 hc0
 have HBW:=zm_ (Below.refl w.heap.size w)
 have HW0:=zm_ hB.size
 have HB:=zm_ hB
 clear hB
 have H : (spec_l01New.l0 k l0 (wrap64 (34601 + (l0.length : Int))) 0) = some (r1,r2,r3):=h
 clear h
 have H':=zm_ H
 clear H
 go_enter Try.func41,Try.ntmps41
 go_wp2
 go_loopg [3,4] k (fun kq v3 v4 w' => ∃ (x3_1 : Int) (x4_1 : Int),v3 = .int .i64 x3_1 ∧ v4 = .int .i64 x4_1 ∧ Aside0 (spec_l01New.l0 kq l0 x3_1 x4_1 = some (r1,r2,r3)) ∧ Aside0 (kq ≤ k) ∧ Aside0 (Below w.heap.size w w') ∧ Aside0 (Below w0.heap.size w0 w'))
 case atStart => exact ⟨(wrap64 (34601 + (l0.length : Int))),(0),zV_,zV_,H',⟨Nat.le_refl _⟩,⟨by repeat (first|(with_reducible first|exact HBW.out|apply za_|apply zn_|apply zd_)|exact HBW.out)⟩,⟨by repeat (first|(with_reducible first|exact HB.out|apply za_|apply zn_|apply zd_)|exact HB.out)⟩⟩
 case round =>
  clear H'
  obtain ⟨x3_1,x4_1,rfl,rfl,HA,HK1,HBW,HB⟩:=hrel
  cases gk with
  |zero => exact absurd HA.out (by simp [spec_l01New.l0])
  |succ k1 =>
   have H:=HA.out
   clear HA
   simp only [spec_l01New.l0] at H
   by_cases c2 : x4_1 < (l0.length : Int)
   ·rw [if_pos c2] at H
    have c2b0 : decide (x4_1 < (l0.length : Int)) = true:=decide_eq_true c2
    clear c2
    by_cases c3 : x4_1 < 4000
    ·rw [if_pos c3] at H
     have c3b0 : decide (x4_1 < 4000) = true:=decide_eq_true c3
     clear c3
     by_cases c4 : 0 ≤ x4_1
     ·rw [if_pos c4] at H
      have c4b0 : decide (0 ≤ x4_1) = true:=decide_eq_true c4
      clear c4
      have H':=zm_ H
      clear H
      have p166 : 0 ≤ (x4_1 : Int):=zo_
      have q166 : x4_1 < (l0.length : Int):=zo_
      obtain ⟨ad166,e166,hx166_0⟩:=Kd.at_int HR0.out x4_1 p166 q166
      cases e166
      replace hx166_0:=pw_cell_below HB.out hx166_0
      replace p166:=eq_true p166
      replace q166:=eq_true q166
      go_wp2
      go_roundg k1
      case measure => have:=HK1.out;omega
      case rel => exact ⟨(Go.bits .and .i64 (wrap64 ((wrap64 ((wrap64 (x3_1 * 131)) + (wrap64 (rd l0 x4_1)))) + 7)) 1073741823),(wrap64 (x4_1 + 1)),zV_,zV_,H',⟨by have:=HK1.out;omega⟩,⟨by repeat (first|(with_reducible first|exact HBW.out|apply za_|apply zn_|apply zd_)|exact HBW.out)⟩,⟨by repeat (first|(with_reducible first|exact HB.out|apply za_|apply zn_|apply zd_)|exact HB.out)⟩⟩
     ·rw [if_neg c4] at H
      exact absurd H (by simp)
    ·rw [if_neg c3] at H
     have c3b0 : decide (x4_1 < 4000) = false:=decide_eq_false c3
     clear c3
     simp only [Option.some.injEq,Prod.mk.injEq] at H
     obtain ⟨rfl,rfl,rfl⟩:=H
     go_wp2_with (first|((with_reducible refine gate_dst (N:=31) rfl ?_);refine box_event ?hg (N:=31) ?hd (cs:=#[.slice A0 l0.length c0,.int .i64 0,.int .i64 x3_1]) (t:=109) ?hr ?_;(case hd => rfl);(case hg => rfl);(case hr => first|(go_simp;done)|(go_simp;rfl));intro gb167 hg w5 hbox hb;have n0_:=zm_ (below_step HBW.out hb);have n1_:=zm_ (below_step zB_ hb);have n2_:=zm_ (hbox);have n3_:=zm_ ((zt4_5 : w.heap.size ≤ gb167));have n4_:=zm_ ((Nat.le_trans HW0.out (zt4_5 : w.heap.size ≤ gb167) : w0.heap.size ≤ gb167));clear HBW;clear HB;have HBW:=n0_;have HB:=n1_;have BK167:=n2_;have GW167:=n3_;have GE167:=n4_;clear n0_ n1_ n2_ n3_ n4_;clear hb hbox hg))
     go_ret
     exact ⟨_,rfl,(show IsS109 w0 _ gb167 l0 0 x3_1 from ⟨_,_,by (with_reducible repeat first|refine zl_ ?_ _|refine zr_ ?_|refine zk_ ?_ _);exact BK167.out,GE167.out,HR0.out⟩),by repeat (first|(with_reducible first|exact HB.out|apply za_|apply zn_|apply zd_|refine zs_ ?_ GE167.out)|exact HB.out),by repeat (first|(with_reducible first|exact HBW.out|apply za_|apply zn_|apply zd_|refine zs_ ?_ GW167.out)|exact HBW.out)⟩
   ·rw [if_neg c2] at H
    have c2b0 : decide (x4_1 < (l0.length : Int)) = false:=decide_eq_false c2
    clear c2
    simp only [Option.some.injEq,Prod.mk.injEq] at H
    obtain ⟨rfl,rfl,rfl⟩:=H
    go_wp2_with (first|((with_reducible refine gate_dst (N:=31) rfl ?_);refine box_event ?hg (N:=31) ?hd (cs:=#[.slice A0 l0.length c0,.int .i64 0,.int .i64 x3_1]) (t:=109) ?hr ?_;(case hd => rfl);(case hg => rfl);(case hr => first|(go_simp;done)|(go_simp;rfl));intro gb168 hg w6 hbox hb;have n0_:=zm_ (below_step HBW.out hb);have n1_:=zm_ (below_step zB_ hb);have n2_:=zm_ (hbox);have n3_:=zm_ ((zt4_5 : w.heap.size ≤ gb168));have n4_:=zm_ ((Nat.le_trans HW0.out (zt4_5 : w.heap.size ≤ gb168) : w0.heap.size ≤ gb168));clear HBW;clear HB;have HBW:=n0_;have HB:=n1_;have BK168:=n2_;have GW168:=n3_;have GE168:=n4_;clear n0_ n1_ n2_ n3_ n4_;clear hb hbox hg))
    go_ret
    exact ⟨_,rfl,(show IsS109 w0 _ gb168 l0 0 x3_1 from ⟨_,_,by (with_reducible repeat first|refine zl_ ?_ _|refine zr_ ?_|refine zk_ ?_ _);exact BK168.out,GE168.out,HR0.out⟩),by repeat (first|(with_reducible first|exact HB.out|apply za_|apply zn_|apply zd_|refine zs_ ?_ GE168.out)|exact HB.out),by repeat (first|(with_reducible first|exact HBW.out|apply za_|apply zn_|apply zd_|refine zs_ ?_ GW168.out)|exact HBW.out)⟩

def spec_l01Byte.f (s0_0 : List Int) (s0_1 : Int) (s0_2 : Int) : Option (Int × Int × Int):=if s0_1 < (s0_0.length : Int) then (if 0 ≤ s0_1 then (some (Go.bits .and .i64 (wrap64 ((Go.bits .and .i64 (Go.bits .xor .i64 ((wrap64 ((wrap64 (s0_2 * 6364136223846793005)) + 1442695040888963407)) / 8589934592) ((wrap64 ((wrap64 (s0_2 * 6364136223846793005)) + 1442695040888963407)) / 35184372088832)) 255) + (wrap64 (rd s0_0 s0_1)))) 255,wrap64 (s0_1 + 1),wrap64 ((wrap64 (s0_2 * 6364136223846793005)) + 1442695040888963407))) else (none)) else (some (Go.bits .and .i64 (Go.bits .xor .i64 ((wrap64 ((wrap64 (s0_2 * 6364136223846793005)) + 1442695040888963407)) / 8589934592) ((wrap64 ((wrap64 (s0_2 * 6364136223846793005)) + 1442695040888963407)) / 35184372088832)) 255,s0_1,wrap64 ((wrap64 (s0_2 * 6364136223846793005)) + 1442695040888963407)))
set_option maxHeartbeats 8000000 in
set_option maxRecDepth 100000 in
theorem spec_l01Byte.calls (g : Nat) (s0_0 : List Int) (s0_1 : Int) (s0_2 : Int) (r1 : Int) (r2 : Int) (r3 : Int) (w0 w : World) (hI : IsS109 w0 w g s0_0 s0_1 s0_2) (hB : Below w0.heap.size w0 w) (h : spec_l01Byte.f s0_0 s0_1 s0_2 = some (r1,r2,r3)) :
  Calls Try.prog 42 #[.pointer (some ⟨g,0,none⟩)] w fun e w' => e = .returned (.int .i64 r1) ∧ IsS109 w0 w' g s0_0 r2 r3 ∧ Below w0.heap.size w0 w' ∧ KeepBut w w' g none:=by
 have HI0:=zm_ hI
 have HK:=zm_ (KeepBut.refl w g none)
 have HL:=zm_ hB.size
 clear hI
 have HW0:=zm_ hB.size
 have HB:=zm_ hB
 clear hB
 have H : (if s0_1 < (s0_0.length : Int) then (if 0 ≤ s0_1 then (some (Go.bits .and .i64 (wrap64 ((Go.bits .and .i64 (Go.bits .xor .i64 ((wrap64 ((wrap64 (s0_2 * 6364136223846793005)) + 1442695040888963407)) / 8589934592) ((wrap64 ((wrap64 (s0_2 * 6364136223846793005)) + 1442695040888963407)) / 35184372088832)) 255) + (wrap64 (rd s0_0 s0_1)))) 255,wrap64 (s0_1 + 1),wrap64 ((wrap64 (s0_2 * 6364136223846793005)) + 1442695040888963407))) else (none)) else (some (Go.bits .and .i64 (Go.bits .xor .i64 ((wrap64 ((wrap64 (s0_2 * 6364136223846793005)) + 1442695040888963407)) / 8589934592) ((wrap64 ((wrap64 (s0_2 * 6364136223846793005)) + 1442695040888963407)) / 35184372088832)) 255,s0_1,wrap64 ((wrap64 (s0_2 * 6364136223846793005)) + 1442695040888963407)))) = some (r1,r2,r3):=h
 clear h
 by_cases c2 : s0_1 < (s0_0.length : Int)
 ·rw [if_pos c2] at H
  have c2b0 : decide (s0_1 < (s0_0.length : Int)) = true:=decide_eq_true c2
  clear c2
  by_cases c3 : 0 ≤ s0_1
  ·rw [if_pos c3] at H
   have c3b0 : decide (0 ≤ s0_1) = true:=decide_eq_true c3
   clear c3
   simp only [Option.some.injEq,Prod.mk.injEq] at H
   obtain ⟨rfl,rfl,rfl⟩:=H
   obtain ⟨ASz4_0,cSz4_0,HGz4,hgz4,HSz4_0⟩:=HI0.out
   have hcz4_0:=cellS109_0 HGz4
   have hcz4_1:=cellS109_1 HGz4
   have hcz4_2:=cellS109_2 HGz4
   have hfz4_1:=zf_ HGz4 1
   have hfz4_2:=zf_ HGz4 2
   clear HGz4 hgz4
   have p169 : 0 ≤ (s0_1 : Int):=zo_
   have q169 : s0_1 < (s0_0.length : Int):=zo_
   obtain ⟨ad169,e169,hx169_0⟩:=Kd.at_int HSz4_0 s0_1 p169 q169
   cases e169
   have hn169_0 : ad169.block ≠ g:=Nat.ne_of_lt (Nat.lt_of_lt_of_le (by have:=zb_ _ _ hx169_0;first|rwa [add_block] at this|exact this) (IsS109.ge HI0.out))
   replace hx169_0:=pw_cell_below HB.out hx169_0
   replace hx169_0:=(cell_far (p:=⟨g,2,none⟩) (by first|(rw [add_block];exact hn169_0)|(show (Addr.add _ _).block ≠ _;rw [add_block];exact hn169_0)|exact hn169_0) (.int .i64 (wrap64 ((wrap64 (s0_2 * 6364136223846793005)) + 1442695040888963407)))).trans hx169_0
   (try have hy169_0:=fun (n_ : Nat) => (show (((w.drewN n_).setCell ⟨g,2,none⟩ (.int .i64 (wrap64 ((wrap64 (s0_2 * 6364136223846793005)) + 1442695040888963407))))).cell? _ = some _ from hx169_0))
   clear hn169_0
   replace p169:=eq_true p169
   replace q169:=eq_true q169
   go_enter Try.func42,Try.ntmps42
   go_wp2
   repeat (go_quiet (fail);try go_wp2)
   go_ret
   exact ⟨zE_,by repeat (first|(with_reducible first|exact HI0.out|apply IsS109.alloc|apply IsS109.drewN|apply IsS109.drew|apply IsS109.set_1|apply IsS109.set_2)|exact HI0.out),by repeat (first|(with_reducible first|exact HB.out|apply za_|apply zn_|apply zd_|refine zs_ ?_ (IsS109.ge HI0.out))|exact HB.out),by repeat (first|(with_reducible first|exact HK.out|apply KeepBut.set_|apply keep_drewN|apply keep_drew|apply keep_alloc)|exact HK.out)⟩
  ·rw [if_neg c3] at H
   exact absurd H (by simp)
 ·rw [if_neg c2] at H
  have c2b0 : decide (s0_1 < (s0_0.length : Int)) = false:=decide_eq_false c2
  clear c2
  simp only [Option.some.injEq,Prod.mk.injEq] at H
  obtain ⟨rfl,rfl,rfl⟩:=H
  obtain ⟨ASz5_0,cSz5_0,HGz5,hgz5,HSz5_0⟩:=HI0.out
  have hcz5_0:=cellS109_0 HGz5
  have hcz5_1:=cellS109_1 HGz5
  have hcz5_2:=cellS109_2 HGz5
  have hfz5_1:=zf_ HGz5 1
  have hfz5_2:=zf_ HGz5 2
  clear HGz5 hgz5
  go_enter Try.func42,Try.ntmps42
  go_wp2
  repeat (go_quiet (fail);try go_wp2)
  go_ret
  exact ⟨zE_,by repeat (first|(with_reducible first|exact HI0.out|apply IsS109.alloc|apply IsS109.drewN|apply IsS109.drew|apply IsS109.set_1|apply IsS109.set_2)|exact HI0.out),by repeat (first|(with_reducible first|exact HB.out|apply za_|apply zn_|apply zd_|refine zs_ ?_ (IsS109.ge HI0.out))|exact HB.out),by repeat (first|(with_reducible first|exact HK.out|apply KeepBut.set_|apply keep_drewN|apply keep_drew|apply keep_alloc)|exact HK.out)⟩

def spec_l01Below.f (s0_0 : List Int) (s0_1 : Int) (s0_2 : Int) (a1 : Int) : Option (Int × Int × Int):=if a1 ≤ 0 then (some (0,s0_1,s0_2)) else (if a1 ≤ 256 then ((spec_l01Byte.f s0_0 s0_1 s0_2).bind fun bt170 => (if a1 = 0 then (none) else (some (Int.tmod bt170.1 a1,bt170.2.1,bt170.2.2)))) else ((spec_l01Byte.f s0_0 s0_1 s0_2).bind fun bt173 => ((spec_l01Byte.f s0_0 bt173.2.1 bt173.2.2).bind fun bt176 => ((spec_l01Byte.f s0_0 bt176.2.1 bt176.2.2).bind fun bt179 => ((spec_l01Byte.f s0_0 bt179.2.1 bt179.2.2).bind fun bt182 => (if a1 = 0 then (none) else (some (Int.tmod (wrap64 ((wrap64 ((wrap64 ((wrap64 (bt173.1 * 16777216)) + (wrap64 (bt176.1 * 65536)))) + (wrap64 (bt179.1 * 256)))) + bt182.1)) a1,bt182.2.1,bt182.2.2))))))))
set_option maxHeartbeats 8000000 in
set_option maxRecDepth 100000 in
theorem spec_l01Below.calls (g : Nat) (s0_0 : List Int) (s0_1 : Int) (s0_2 : Int) (a1 : Int) (r1 : Int) (r2 : Int) (r3 : Int) (w0 w : World) (hI : IsS109 w0 w g s0_0 s0_1 s0_2) (hB : Below w0.heap.size w0 w) (h : spec_l01Below.f s0_0 s0_1 s0_2 a1 = some (r1,r2,r3)) :
  Calls Try.prog 43 #[.pointer (some ⟨g,0,none⟩),.int .i64 a1] w fun e w' => e = .returned (.int .i64 r1) ∧ IsS109 w0 w' g s0_0 r2 r3 ∧ Below w0.heap.size w0 w' ∧ KeepBut w w' g none:=by
 have HI0:=zm_ hI
 have HK:=zm_ (KeepBut.refl w g none)
 have HL:=zm_ hB.size
 clear hI
 have HW0:=zm_ hB.size
 have HB:=zm_ hB
 clear hB
 have H : (if a1 ≤ 0 then (some (0,s0_1,s0_2)) else (if a1 ≤ 256 then ((spec_l01Byte.f s0_0 s0_1 s0_2).bind fun bt170 => (if a1 = 0 then (none) else (some (Int.tmod bt170.1 a1,bt170.2.1,bt170.2.2)))) else ((spec_l01Byte.f s0_0 s0_1 s0_2).bind fun bt173 => ((spec_l01Byte.f s0_0 bt173.2.1 bt173.2.2).bind fun bt176 => ((spec_l01Byte.f s0_0 bt176.2.1 bt176.2.2).bind fun bt179 => ((spec_l01Byte.f s0_0 bt179.2.1 bt179.2.2).bind fun bt182 => (if a1 = 0 then (none) else (some (Int.tmod (wrap64 ((wrap64 ((wrap64 ((wrap64 (bt173.1 * 16777216)) + (wrap64 (bt176.1 * 65536)))) + (wrap64 (bt179.1 * 256)))) + bt182.1)) a1,bt182.2.1,bt182.2.2))))))))) = some (r1,r2,r3):=h
 clear h
 by_cases c3 : a1 ≤ 0
 ·rw [if_pos c3] at H
  have c3b0 : decide (a1 ≤ 0) = true:=decide_eq_true c3
  clear c3
  simp only [Option.some.injEq,Prod.mk.injEq] at H
  obtain ⟨rfl,rfl,rfl⟩:=H
  go_enter Try.func43,Try.ntmps43
  go_wp2
  go_ret
  exact ⟨zE_,by repeat (first|(with_reducible first|exact HI0.out|apply IsS109.alloc|apply IsS109.drewN|apply IsS109.drew|apply IsS109.set_1|apply IsS109.set_2)|exact HI0.out),by repeat (first|(with_reducible first|exact HB.out|apply za_|apply zn_|apply zd_|refine zs_ ?_ (IsS109.ge HI0.out))|exact HB.out),by repeat (first|(with_reducible first|exact HK.out|apply KeepBut.set_|apply keep_drewN|apply keep_drew|apply keep_alloc)|exact HK.out)⟩
 ·rw [if_neg c3] at H
  have c3b0 : decide (a1 ≤ 0) = false:=decide_eq_false c3
  clear c3
  by_cases c4 : a1 ≤ 256
  ·rw [if_pos c4] at H
   have c4b0 : decide (a1 ≤ 256) = true:=decide_eq_true c4
   clear c4
   replace H:=Option.bind_eq_some_iff.mp H
   obtain ⟨⟨t170,t171,t172⟩,A50,H⟩:=H
   replace H : (if a1 = 0 then (none) else (some (Int.tmod t170 a1,t171,t172))) = some (r1,r2,r3):=H
   have A5:=zm_ A50
   clear A50
   by_cases c6 : a1 = 0
   ·rw [if_pos c6] at H
    exact absurd H (by simp)
   ·rw [if_neg c6] at H
    have c6b0 : (a1 == 0) = false:=beq_eq_false_iff_ne.mpr c6
    have c6b1 : (a1 != 0) = true:=bne_iff_ne.mpr c6
    simp only [Option.some.injEq,Prod.mk.injEq] at H
    obtain ⟨rfl,rfl,rfl⟩:=H
    go_enter Try.func43,Try.ntmps43
    go_wp2_with (first|((with_reducible refine gate_callee (f:=42) rfl ?_);refine goesL_ (some 14) rfl rfl Try.func42 (by kernel_rfl) rfl #[.pointer (some ⟨g,0,none⟩)] rfl zq_ ?_;(with_reducible refine (spec_l01Byte.calls g s0_0 s0_1 s0_2 t170 t171 t172 w0 _ ?side1 ?side2 A5.out).mono ?_);(case side1 => repeat (first|(with_reducible first|exact HI0.out|apply IsS109.alloc|apply IsS109.drewN|apply IsS109.drew|apply IsS109.set_1|apply IsS109.set_2)|exact HI0.out));(case side2 => repeat (first|(with_reducible first|exact HB.out|apply za_|apply zn_|apply zd_|refine zs_ ?_ (IsS109.ge HI0.out))|exact HB.out));rintro e w7 ⟨rfl,hi,hb,hk⟩;refine ⟨_,rfl,?_⟩;have n0_:=zm_ (KeepBut.trans zt4_2 hk (.inl rfl));have n1_:=zm_ (hb);have n2_:=zm_ (hi);clear HK;clear HB;clear HI0;have HK:=n0_;have HB:=n1_;have HI0:=n2_;clear n0_ n1_ n2_;(try clear hb);(try clear hb2);(try clear hk);(try clear hi)))
    go_ret
    exact ⟨zE_,by repeat (first|(with_reducible first|exact HI0.out|apply IsS109.alloc|apply IsS109.drewN|apply IsS109.drew|apply IsS109.set_1|apply IsS109.set_2)|exact HI0.out),by repeat (first|(with_reducible first|exact HB.out|apply za_|apply zn_|apply zd_|refine zs_ ?_ (IsS109.ge HI0.out))|exact HB.out),by repeat (first|(with_reducible first|exact HK.out|apply KeepBut.set_|apply keep_drewN|apply keep_drew|apply keep_alloc)|exact HK.out)⟩
  ·rw [if_neg c4] at H
   have c4b0 : decide (a1 ≤ 256) = false:=decide_eq_false c4
   clear c4
   replace H:=Option.bind_eq_some_iff.mp H
   obtain ⟨⟨t173,t174,t175⟩,A80,H⟩:=H
   replace H : ((spec_l01Byte.f s0_0 t174 t175).bind fun bt176 => ((spec_l01Byte.f s0_0 bt176.2.1 bt176.2.2).bind fun bt179 => ((spec_l01Byte.f s0_0 bt179.2.1 bt179.2.2).bind fun bt182 => (if a1 = 0 then (none) else (some (Int.tmod (wrap64 ((wrap64 ((wrap64 ((wrap64 (t173 * 16777216)) + (wrap64 (bt176.1 * 65536)))) + (wrap64 (bt179.1 * 256)))) + bt182.1)) a1,bt182.2.1,bt182.2.2)))))) = some (r1,r2,r3):=H
   have A8:=zm_ A80
   clear A80
   replace H:=Option.bind_eq_some_iff.mp H
   obtain ⟨⟨t176,t177,t178⟩,A90,H⟩:=H
   replace H : ((spec_l01Byte.f s0_0 t177 t178).bind fun bt179 => ((spec_l01Byte.f s0_0 bt179.2.1 bt179.2.2).bind fun bt182 => (if a1 = 0 then (none) else (some (Int.tmod (wrap64 ((wrap64 ((wrap64 ((wrap64 (t173 * 16777216)) + (wrap64 (t176 * 65536)))) + (wrap64 (bt179.1 * 256)))) + bt182.1)) a1,bt182.2.1,bt182.2.2))))) = some (r1,r2,r3):=H
   have A9:=zm_ A90
   clear A90
   replace H:=Option.bind_eq_some_iff.mp H
   obtain ⟨⟨t179,t180,t181⟩,A100,H⟩:=H
   replace H : ((spec_l01Byte.f s0_0 t180 t181).bind fun bt182 => (if a1 = 0 then (none) else (some (Int.tmod (wrap64 ((wrap64 ((wrap64 ((wrap64 (t173 * 16777216)) + (wrap64 (t176 * 65536)))) + (wrap64 (t179 * 256)))) + bt182.1)) a1,bt182.2.1,bt182.2.2)))) = some (r1,r2,r3):=H
   have A10:=zm_ A100
   clear A100
   replace H:=Option.bind_eq_some_iff.mp H
   obtain ⟨⟨t182,t183,t184⟩,A110,H⟩:=H
   replace H : (if a1 = 0 then (none) else (some (Int.tmod (wrap64 ((wrap64 ((wrap64 ((wrap64 (t173 * 16777216)) + (wrap64 (t176 * 65536)))) + (wrap64 (t179 * 256)))) + t182)) a1,t183,t184))) = some (r1,r2,r3):=H
   have A11:=zm_ A110
   clear A110
   by_cases c12 : a1 = 0
   ·rw [if_pos c12] at H
    exact absurd H (by simp)
   ·rw [if_neg c12] at H
    have c12b0 : (a1 == 0) = false:=beq_eq_false_iff_ne.mpr c12
    have c12b1 : (a1 != 0) = true:=bne_iff_ne.mpr c12
    simp only [Option.some.injEq,Prod.mk.injEq] at H
    obtain ⟨rfl,rfl,rfl⟩:=H
    go_enter Try.func43,Try.ntmps43
    go_wp2_with (first|((with_reducible refine gate_callee (f:=42) rfl ?_);refine goesL_ (some 18) rfl rfl Try.func42 (by kernel_rfl) rfl #[.pointer (some ⟨g,0,none⟩)] rfl zq_ ?_;(with_reducible refine (spec_l01Byte.calls g s0_0 s0_1 s0_2 t173 t174 t175 w0 _ ?side1 ?side2 A8.out).mono ?_);(case side1 => repeat (first|(with_reducible first|exact HI0.out|apply IsS109.alloc|apply IsS109.drewN|apply IsS109.drew|apply IsS109.set_1|apply IsS109.set_2)|exact HI0.out));(case side2 => repeat (first|(with_reducible first|exact HB.out|apply za_|apply zn_|apply zd_|refine zs_ ?_ (IsS109.ge HI0.out))|exact HB.out));rintro e w13 ⟨rfl,hi,hb,hk⟩;refine ⟨_,rfl,?_⟩;have n0_:=zm_ (KeepBut.trans zt4_2 hk (.inl rfl));have n1_:=zm_ (hb);have n2_:=zm_ (hi);clear HK;clear HB;clear HI0;have HK:=n0_;have HB:=n1_;have HI0:=n2_;clear n0_ n1_ n2_;(try clear hb);(try clear hb2);(try clear hk);(try clear hi))|((with_reducible refine gate_callee (f:=42) rfl ?_);refine goesL_ (some 20) rfl rfl Try.func42 (by kernel_rfl) rfl #[.pointer (some ⟨g,0,none⟩)] rfl zq_ ?_;(with_reducible refine (spec_l01Byte.calls g s0_0 t174 t175 t176 t177 t178 w0 _ ?side1 ?side2 A9.out).mono ?_);(case side1 => repeat (first|(with_reducible first|exact HI0.out|apply IsS109.alloc|apply IsS109.drewN|apply IsS109.drew|apply IsS109.set_1|apply IsS109.set_2)|exact HI0.out));(case side2 => repeat (first|(with_reducible first|exact HB.out|apply za_|apply zn_|apply zd_|refine zs_ ?_ (IsS109.ge HI0.out))|exact HB.out));rintro e w14 ⟨rfl,hi,hb,hk⟩;refine ⟨_,rfl,?_⟩;have n0_:=zm_ (KeepBut.trans zt4_2 hk (.inl rfl));have n1_:=zm_ (hb);have n2_:=zm_ (hi);clear HK;clear HB;clear HI0;have HK:=n0_;have HB:=n1_;have HI0:=n2_;clear n0_ n1_ n2_;(try clear hb);(try clear hb2);(try clear hk);(try clear hi))|((with_reducible refine gate_callee (f:=42) rfl ?_);refine goesL_ (some 22) rfl rfl Try.func42 (by kernel_rfl) rfl #[.pointer (some ⟨g,0,none⟩)] rfl zq_ ?_;(with_reducible refine (spec_l01Byte.calls g s0_0 t177 t178 t179 t180 t181 w0 _ ?side1 ?side2 A10.out).mono ?_);(case side1 => repeat (first|(with_reducible first|exact HI0.out|apply IsS109.alloc|apply IsS109.drewN|apply IsS109.drew|apply IsS109.set_1|apply IsS109.set_2)|exact HI0.out));(case side2 => repeat (first|(with_reducible first|exact HB.out|apply za_|apply zn_|apply zd_|refine zs_ ?_ (IsS109.ge HI0.out))|exact HB.out));rintro e w15 ⟨rfl,hi,hb,hk⟩;refine ⟨_,rfl,?_⟩;have n0_:=zm_ (KeepBut.trans zt4_2 hk (.inl rfl));have n1_:=zm_ (hb);have n2_:=zm_ (hi);clear HK;clear HB;clear HI0;have HK:=n0_;have HB:=n1_;have HI0:=n2_;clear n0_ n1_ n2_;(try clear hb);(try clear hb2);(try clear hk);(try clear hi))|((with_reducible refine gate_callee (f:=42) rfl ?_);refine goesL_ (some 24) rfl rfl Try.func42 (by kernel_rfl) rfl #[.pointer (some ⟨g,0,none⟩)] rfl zq_ ?_;(with_reducible refine (spec_l01Byte.calls g s0_0 t180 t181 t182 t183 t184 w0 _ ?side1 ?side2 A11.out).mono ?_);(case side1 => repeat (first|(with_reducible first|exact HI0.out|apply IsS109.alloc|apply IsS109.drewN|apply IsS109.drew|apply IsS109.set_1|apply IsS109.set_2)|exact HI0.out));(case side2 => repeat (first|(with_reducible first|exact HB.out|apply za_|apply zn_|apply zd_|refine zs_ ?_ (IsS109.ge HI0.out))|exact HB.out));rintro e w16 ⟨rfl,hi,hb,hk⟩;refine ⟨_,rfl,?_⟩;have n0_:=zm_ (KeepBut.trans zt4_2 hk (.inl rfl));have n1_:=zm_ (hb);have n2_:=zm_ (hi);clear HK;clear HB;clear HI0;have HK:=n0_;have HB:=n1_;have HI0:=n2_;clear n0_ n1_ n2_;(try clear hb);(try clear hb2);(try clear hk);(try clear hi)))
    go_ret
    exact ⟨zE_,by repeat (first|(with_reducible first|exact HI0.out|apply IsS109.alloc|apply IsS109.drewN|apply IsS109.drew|apply IsS109.set_1|apply IsS109.set_2)|exact HI0.out),by repeat (first|(with_reducible first|exact HB.out|apply za_|apply zn_|apply zd_|refine zs_ ?_ (IsS109.ge HI0.out))|exact HB.out),by repeat (first|(with_reducible first|exact HK.out|apply KeepBut.set_|apply keep_drewN|apply keep_drew|apply keep_alloc)|exact HK.out)⟩

def spec_l04Kids.j0 : Nat → Int → Bool → Option (Int)
 |0,_,_ => none
 |k + 1,x3,x4 => if x4 = true then (some 0) else (if x3 = 11 then (some 1) else (some 2))
def spec_l04Kids.f (k : Nat) (a0 : Int) : Option (Int):=if a0 = 1 then (spec_l04Kids.j0 k a0 (a0 == 1)) else (if a0 = 2 then (spec_l04Kids.j0 k a0 (a0 == 2)) else (spec_l04Kids.j0 k a0 (a0 == 3)))
theorem spec_l04Kids.mono_l : ∀ k,(∀ y0 y1,LeO (spec_l04Kids.j0 k y0 y1) (spec_l04Kids.j0 (k + 1) y0 y1))
 |0 => fun _ _ r h => by simp [spec_l04Kids.j0] at h
 |k + 1 => by
  have ih0:=spec_l04Kids.mono_l k
  ·intro y0 y1
   unfold spec_l04Kids.j0
   repeat' first
   |(with_reducible exact ih0 _ _)
   |(with_reducible exact LeO.refl _)
   |(with_reducible exact LeO.none _)
   |(with_reducible refine LeO.ite ?_ ?_)
   |(with_reducible refine LeO.bind ?_ (fun _ => ?_))
theorem spec_l04Kids.mono : ∀ a0 k,LeO (spec_l04Kids.f k a0) (spec_l04Kids.f (k + 1) a0):=by
 intro a0 k
 have ih0:=spec_l04Kids.mono_l k
 unfold spec_l04Kids.f
 repeat' first
   |(with_reducible exact ih0 _ _)
   |(with_reducible exact LeO.refl _)
   |(with_reducible exact LeO.none _)
   |(with_reducible refine LeO.ite ?_ ?_)
   |(with_reducible refine LeO.bind ?_ (fun _ => ?_))
set_option maxHeartbeats 8000000 in
set_option maxRecDepth 100000 in
theorem spec_l04Kids.calls (k : Nat) (a0 : Int) (r : Int) (w : World) (h : spec_l04Kids.f k a0 = some r) :
  Calls Try.prog 51 #[.int .i64 a0] w fun e w' => e = .returned (.int .i64 r) ∧ Drawn0 w w':=by
 have H : (if a0 = 1 then (spec_l04Kids.j0 k a0 (a0 == 1)) else (if a0 = 2 then (spec_l04Kids.j0 k a0 (a0 == 2)) else (spec_l04Kids.j0 k a0 (a0 == 3)))) = some r:=h
 clear h
 have HC2:=zm_ H
 clear H
 go_enter Try.func51,Try.ntmps51
 go_upto_if 4 with (fail)
 go_cut [4] (fun v4 wc => ∃ (kq : Nat) (x4_1 : Bool),v4 = .bool x4_1 ∧ Aside0 (spec_l04Kids.j0 kq a0 x4_1 = some r) ∧ Aside0 (kq ≤ k) ∧ Drawn0 w wc)
 case first =>
  have H:=HC2.out
  clear HC2
  by_cases c3 : a0 = 1
  ·rw [if_pos c3] at H
   have c3b0 : (a0 == 1) = true:=beq_iff_eq.mpr c3
   have c3b1 : (a0 != 1) = false:=bne_eq_false_iff_eq.mpr c3
   clear c3
   (first|rw [c3b0]|(simp only [i64_w,i32_w];rw [c3b0])|skip)
   have H':=zm_ H
   clear H
   go_wp2
   go_meet
   case rel => exact ⟨_,((a0 == 1)),zV_,H',⟨by first|omega|exact Nat.le_refl _⟩,by repeat (first|exact Drawn0.refl _|apply Drawn0.step)⟩
  ·rw [if_neg c3] at H
   have c3b0 : (a0 == 1) = false:=beq_eq_false_iff_ne.mpr c3
   have c3b1 : (a0 != 1) = true:=bne_iff_ne.mpr c3
   (first|rw [c3b0]|(simp only [i64_w,i32_w];rw [c3b0])|skip)
   by_cases c4 : a0 = 2
   ·rw [if_pos c4] at H
    have c4b0 : (a0 == 2) = true:=beq_iff_eq.mpr c4
    have c4b1 : (a0 != 2) = false:=bne_eq_false_iff_eq.mpr c4
    clear c4
    have H':=zm_ H
    clear H
    go_wp2
    go_meet
    case rel => exact ⟨_,((a0 == 2)),zV_,H',⟨by first|omega|exact Nat.le_refl _⟩,by repeat (first|exact Drawn0.refl _|apply Drawn0.step)⟩
   ·rw [if_neg c4] at H
    have c4b0 : (a0 == 2) = false:=beq_eq_false_iff_ne.mpr c4
    have c4b1 : (a0 != 2) = true:=bne_iff_ne.mpr c4
    have H':=zm_ H
    clear H
    go_wp2
    go_meet
    case rel => exact ⟨_,((a0 == 3)),zV_,H',⟨by first|omega|exact Nat.le_refl _⟩,by repeat (first|exact Drawn0.refl _|apply Drawn0.step)⟩
 case rest =>
  clear HC2
  try clear p2
  try clear c3
  try clear c3b0
  try clear c3b1
  try clear c4
  try clear c4b0
  try clear c4b1
  obtain ⟨kq,x4_1,rfl,HA,HJ1,⟨mc1,rfl⟩⟩:=hcut
  cases kq with
  |zero => exact absurd HA.out (by simp [spec_l04Kids.j0])
  |succ kj1 =>
   have H:=HA.out
   clear HA
   simp only [spec_l04Kids.j0] at H
   by_cases c5 : x4_1 = true
   ·subst c5
    have H1 : (some 0) = some r:=by rw [if_pos rfl] at H;exact H
    clear H
    have H:=H1
    clear H1
    obtain rfl:=Option.some.inj H
    go_wp2
    go_ret
    exact ⟨by first|rfl|(simp;done)|(simp [*];done),by repeat (first|exact Drawn0.refl _|apply Drawn0.step)⟩
   ·replace c5:=Bool.eq_false_iff.mpr c5
    subst c5
    have H1 : (if a0 = 11 then (some 1) else (some 2)) = some r:=by rw [if_neg (show ¬ (false = true) by decide)] at H;exact H
    clear H
    have H:=H1
    clear H1
    by_cases c6 : a0 = 11
    ·rw [if_pos c6] at H
     have c6b0 : (a0 == 11) = true:=beq_iff_eq.mpr c6
     have c6b1 : (a0 != 11) = false:=bne_eq_false_iff_eq.mpr c6
     clear c6
     obtain rfl:=Option.some.inj H
     go_wp2
     go_ret
     exact ⟨by first|rfl|(simp;done)|(simp [*];done),by repeat (first|exact Drawn0.refl _|apply Drawn0.step)⟩
    ·rw [if_neg c6] at H
     have c6b0 : (a0 == 11) = false:=beq_eq_false_iff_ne.mpr c6
     have c6b1 : (a0 != 11) = true:=bne_iff_ne.mpr c6
     obtain rfl:=Option.some.inj H
     go_wp2
     go_ret
     exact ⟨by first|rfl|(simp;done)|(simp [*];done),by repeat (first|exact Drawn0.refl _|apply Drawn0.step)⟩

def spec_l01PickInt.f (s0_0 : List Int) (s0_1 : Int) (s0_2 : Int) (l1 : List Int) : Option (Int × Int × Int):=(spec_l01Below.f s0_0 s0_1 s0_2 (l1.length : Int)).bind fun bt185 => (if 0 ≤ bt185.1 then (if bt185.1 < (l1.length : Int) then (some (rd l1 bt185.1,bt185.2.1,bt185.2.2)) else (none)) else (none))
set_option maxHeartbeats 8000000 in
set_option maxRecDepth 100000 in
theorem spec_l01PickInt.calls (g : Nat) (s0_0 : List Int) (s0_1 : Int) (s0_2 : Int) (A1 : Option Addr) (c1 : Nat) (l1 : List Int) (r1 : Int) (r2 : Int) (r3 : Int) (w0 w : World) (hI : IsS109 w0 w g s0_0 s0_1 s0_2) (hB : Below w0.heap.size w0 w) (hr1 : Kd.C (Kd.int .i64) w A1 l1.length l1) (hc1 : l1.length ≤ c1) (hf1 : ∀ ad,A1 = some ad → 0 < l1.length → ad.block ≠ g) (h : spec_l01PickInt.f s0_0 s0_1 s0_2 l1 = some (r1,r2,r3)) :
  Calls Try.prog 77 #[.pointer (some ⟨g,0,none⟩),.slice A1 l1.length c1] w fun e w' => e = .returned (.int .i64 r1) ∧ IsS109 w0 w' g s0_0 r2 r3 ∧ Below w0.heap.size w0 w' ∧ KeepBut w w' g none:=by
 have HR1:=zm_ hr1
 have HC1:=zm_ hc1
 clear hr1 hc1
 have HI0:=zm_ hI
 have HK:=zm_ (KeepBut.refl w g none)
 have HL:=zm_ hB.size
 clear hI
 have HW0:=zm_ hB.size
 have HB:=zm_ hB
 clear hB
 have H : ((spec_l01Below.f s0_0 s0_1 s0_2 (l1.length : Int)).bind fun bt185 => (if 0 ≤ bt185.1 then (if bt185.1 < (l1.length : Int) then (some (rd l1 bt185.1,bt185.2.1,bt185.2.2)) else (none)) else (none))) = some (r1,r2,r3):=h
 clear h
 replace H:=Option.bind_eq_some_iff.mp H
 obtain ⟨⟨t185,t186,t187⟩,A30,H⟩:=H
 replace H : (if 0 ≤ t185 then (if t185 < (l1.length : Int) then (some (rd l1 t185,t186,t187)) else (none)) else (none)) = some (r1,r2,r3):=H
 have A3:=zm_ A30
 clear A30
 by_cases c4 : 0 ≤ t185
 ·rw [if_pos c4] at H
  have c4b0 : decide (0 ≤ t185) = true:=decide_eq_true c4
  clear c4
  by_cases c5 : t185 < (l1.length : Int)
  ·rw [if_pos c5] at H
   have c5b0 : decide (t185 < (l1.length : Int)) = true:=decide_eq_true c5
   clear c5
   simp only [Option.some.injEq,Prod.mk.injEq] at H
   obtain ⟨rfl,rfl,rfl⟩:=H
   go_enter Try.func77,Try.ntmps77
   go_wp2_with (first|((with_reducible refine gate_callee (f:=43) rfl ?_);refine goesL_ (some 9) rfl rfl Try.func43 (by kernel_rfl) rfl #[.pointer (some ⟨g,0,none⟩),.int .i64 (l1.length : Int)] rfl zq_ ?_;(with_reducible refine (spec_l01Below.calls g s0_0 s0_1 s0_2 (l1.length : Int) t185 t186 t187 w0 _ ?side1 ?side2 A3.out).mono ?_);(case side1 => repeat (first|(with_reducible first|exact HI0.out|apply IsS109.alloc|apply IsS109.drewN|apply IsS109.drew|apply IsS109.set_1|apply IsS109.set_2)|exact HI0.out));(case side2 => repeat (first|(with_reducible first|exact HB.out|apply za_|apply zn_|apply zd_|refine zs_ ?_ (IsS109.ge HI0.out))|exact HB.out));rintro e w6 ⟨rfl,hi,hb,hk⟩;refine ⟨_,rfl,?_⟩;have n0_:=zm_ (KeepBut.trans zt4_2 hk (.inl rfl));have n1_:=zm_ (hb);have n2_:=zm_ (hi);clear HK;clear HB;clear HI0;have HK:=n0_;have HB:=n1_;have HI0:=n2_;clear n0_ n1_ n2_;(try clear hb);(try clear hb2);(try clear hk);(try clear hi);have p188 : 0 ≤ (t185 : Int):=zo_;have q188 : t185 < (l1.length : Int):=zo_;obtain ⟨ad188,e188,hx188_0⟩:=Kd.at_int HR1.out t185 p188 q188;cases e188;replace hx188_0:=keep_cell HK.out hx188_0 (by first|(rw [add_block];exact hf1 _ rfl (by omega))|exact hf1 _ rfl (by omega)|exact hf1 ad188 rfl (by omega));replace p188:=eq_true p188;replace q188:=eq_true q188))
   go_ret
   exact ⟨zE_,by repeat (first|(with_reducible first|exact HI0.out|apply IsS109.alloc|apply IsS109.drewN|apply IsS109.drew|apply IsS109.set_1|apply IsS109.set_2)|exact HI0.out),by repeat (first|(with_reducible first|exact HB.out|apply za_|apply zn_|apply zd_|refine zs_ ?_ (IsS109.ge HI0.out))|exact HB.out),by repeat (first|(with_reducible first|exact HK.out|apply KeepBut.set_|apply keep_drewN|apply keep_drew|apply keep_alloc)|exact HK.out)⟩
  ·rw [if_neg c5] at H
   exact absurd H (by simp)
 ·rw [if_neg c4] at H
  exact absurd H (by simp)

def spec_l01Once.f (s0_0 : List Int) (s0_1 : Int) (s0_2 : Int) (a1 : Int) : Option (Bool × Int × Int):=(spec_l01Below.f s0_0 s0_1 s0_2 a1).bind fun bt189 => (some ((bt189.1 == 0),bt189.2.1,bt189.2.2))
set_option maxHeartbeats 8000000 in
set_option maxRecDepth 100000 in
theorem spec_l01Once.calls (g : Nat) (s0_0 : List Int) (s0_1 : Int) (s0_2 : Int) (a1 : Int) (r1 : Bool) (r2 : Int) (r3 : Int) (w0 w : World) (hI : IsS109 w0 w g s0_0 s0_1 s0_2) (hB : Below w0.heap.size w0 w) (h : spec_l01Once.f s0_0 s0_1 s0_2 a1 = some (r1,r2,r3)) :
  Calls Try.prog 96 #[.pointer (some ⟨g,0,none⟩),.int .i64 a1] w fun e w' => e = .returned (.bool r1) ∧ IsS109 w0 w' g s0_0 r2 r3 ∧ Below w0.heap.size w0 w' ∧ KeepBut w w' g none:=by
 have HI0:=zm_ hI
 have HK:=zm_ (KeepBut.refl w g none)
 have HL:=zm_ hB.size
 clear hI
 have HW0:=zm_ hB.size
 have HB:=zm_ hB
 clear hB
 have H : ((spec_l01Below.f s0_0 s0_1 s0_2 a1).bind fun bt189 => (some ((bt189.1 == 0),bt189.2.1,bt189.2.2))) = some (r1,r2,r3):=h
 clear h
 replace H:=Option.bind_eq_some_iff.mp H
 obtain ⟨⟨t189,t190,t191⟩,A30,H⟩:=H
 replace H : (some ((t189 == 0),t190,t191)) = some (r1,r2,r3):=H
 have A3:=zm_ A30
 clear A30
 simp only [Option.some.injEq,Prod.mk.injEq] at H
 obtain ⟨rfl,rfl,rfl⟩:=H
 go_enter Try.func96,Try.ntmps96
 go_wp2_with (first|((with_reducible refine gate_callee (f:=43) rfl ?_);refine goesL_ (some 7) rfl rfl Try.func43 (by kernel_rfl) rfl #[.pointer (some ⟨g,0,none⟩),.int .i64 a1] rfl zq_ ?_;(with_reducible refine (spec_l01Below.calls g s0_0 s0_1 s0_2 a1 t189 t190 t191 w0 _ ?side1 ?side2 A3.out).mono ?_);(case side1 => repeat (first|(with_reducible first|exact HI0.out|apply IsS109.alloc|apply IsS109.drewN|apply IsS109.drew|apply IsS109.set_1|apply IsS109.set_2)|exact HI0.out));(case side2 => repeat (first|(with_reducible first|exact HB.out|apply za_|apply zn_|apply zd_|refine zs_ ?_ (IsS109.ge HI0.out))|exact HB.out));rintro e w4 ⟨rfl,hi,hb,hk⟩;refine ⟨_,rfl,?_⟩;have n0_:=zm_ (KeepBut.trans zt4_2 hk (.inl rfl));have n1_:=zm_ (hb);have n2_:=zm_ (hi);clear HK;clear HB;clear HI0;have HK:=n0_;have HB:=n1_;have HI0:=n2_;clear n0_ n1_ n2_;(try clear hb);(try clear hb2);(try clear hk);(try clear hi)))
 go_ret
 exact ⟨zE_,by repeat (first|(with_reducible first|exact HI0.out|apply IsS109.alloc|apply IsS109.drewN|apply IsS109.drew|apply IsS109.set_1|apply IsS109.set_2)|exact HI0.out),by repeat (first|(with_reducible first|exact HB.out|apply za_|apply zn_|apply zd_|refine zs_ ?_ (IsS109.ge HI0.out))|exact HB.out),by repeat (first|(with_reducible first|exact HK.out|apply KeepBut.set_|apply keep_drewN|apply keep_drew|apply keep_alloc)|exact HK.out)⟩


end Go.Proofs.Ytnmhggdaccbbfaa.MFnExprFree
