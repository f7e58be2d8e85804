import Derived.Test.YtnmhggdaccbbfaaDoorMFnExactShowExprx0
import Derived.Test.YtnmhggdaccbbfaaDoorMFnExactShowExprx6
import Derived.Test.YtnmhggdaccbbfaaDoorMFnExactShowExprx7
namespace Go.Proofs.YtnmhggdaccbbfaaDoor.MFnExactShowExpr
open Go.RowKit Go.Proofs.YtnmhggdaccbbfaaDoorW.PrintWords Go.Proofs.YtnmhggdaccbbfaaDoorW.PrintLast Go.Proofs.YtnmhggdaccbbfaaDoorW.PrintMore
attribute [local go_sem] max2_int min2_int max_two min_two max_three min_three max_four min_four
set_option linter.unusedVariables false
set_option linter.unusedSimpArgs false

mutual
def impl_ShowExpr.l0 : Nat → List Int → List (S70) → Int → Int → List (S70) → Option (ByteArray)
 |0,_,_,_,_,_ => none
 |k + 1,x3,x14,x15,x16,x222000 => if x16 < x15 then (if 0 ≤ x16 then (if x16 < (x14.length : Int) then (impl_ShowExpr.l1 k x3 1 x14 x15 x16 ((rd_T70 x14 x16).f3) (((rd_T70 x14 x16).f3).length : Int) 0 x222000) else (none)) else (none)) else (if 0 ≤ (wrap64 ((x3.length : Int) - 1)) then (if (wrap64 ((x3.length : Int) - 1)) < (x3.length : Int) then (if (rd x3 (wrap64 ((x3.length : Int) - 1))) > 200 then (some (⟨#[]⟩ : ByteArray)) else ((impl_showNode.f k x222000 (wrap64 ((x222000.length : Int) - 1))).bind fun t227 => (some t227))) else (none)) else (none))
def impl_ShowExpr.l1 : Nat → List Int → Int → List (S70) → Int → Int → List Int → Int → Int → List (S70) → Option (ByteArray)
 |0,_,_,_,_,_,_,_,_,_ => none
 |k + 1,x3,x6,x14,x15,x16,x21,x22,x23,x222000 => if x23 < x22 then (if 0 ≤ x23 then (if x23 < (x21.length : Int) then (if 0 ≤ (rd x21 x23) then (if (rd x21 x23) < (x3.length : Int) then (impl_ShowExpr.l1 k x3 (wrap64 (x6 + (rd x3 (rd x21 x23)))) x14 x15 x16 x21 x22 (wrap64 (x23 + 1)) x222000) else (none)) else (none)) else (none)) else (none)) else (if x3.length < 17592186044416 then (impl_ShowExpr.l0 k (x3 ++ [mn x6 201]) x14 x15 (wrap64 (x16 + 1)) x222000) else (none))
end
def impl_ShowExpr.f (k : Nat) (l0_0 : List (S70)) : Option (ByteArray):=(impl_ExprOk.f k l0_0).bind fun t222 => (if t222 = true then (impl_ShowExpr.l0 k (([] : List Int)) l0_0 (l0_0.length : Int) 0 l0_0) else (some (⟨#[]⟩ : ByteArray)))
theorem impl_ShowExpr.mono_l : ∀ k,(∀ y0 y1 y2 y3 y4,LeO (impl_ShowExpr.l0 k y0 y1 y2 y3 y4) (impl_ShowExpr.l0 (k + 1) y0 y1 y2 y3 y4)) ∧ (∀ y0 y1 y2 y3 y4 y5 y6 y7 y8,LeO (impl_ShowExpr.l1 k y0 y1 y2 y3 y4 y5 y6 y7 y8) (impl_ShowExpr.l1 (k + 1) y0 y1 y2 y3 y4 y5 y6 y7 y8))
 |0 => ⟨fun _ _ _ _ _ r h => by simp [impl_ShowExpr.l0] at h,fun _ _ _ _ _ _ _ _ _ r h => by simp [impl_ShowExpr.l1] at h⟩
 |k + 1 => by
  obtain ⟨ih0,ih1⟩:=impl_ShowExpr.mono_l k
  refine ⟨?_,?_⟩
  ·intro y0 y1 y2 y3 y4
   unfold impl_ShowExpr.l0
   repeat' first
   |(with_reducible exact ih0 _ _ _ _ _)
   |(with_reducible exact ih1 _ _ _ _ _ _ _ _ _)
   |(with_reducible exact impl_ExprOk.mono _ _)
   |(with_reducible exact impl_showNode.mono _ _ _)
   |(with_reducible exact LeO.refl _)
   |(with_reducible exact LeO.none _)
   |(with_reducible refine LeO.ite ?_ ?_)
   |(with_reducible refine LeO.bind ?_ (fun _ => ?_))
  ·intro y0 y1 y2 y3 y4 y5 y6 y7 y8
   unfold impl_ShowExpr.l1
   repeat' first
   |(with_reducible exact ih0 _ _ _ _ _)
   |(with_reducible exact ih1 _ _ _ _ _ _ _ _ _)
   |(with_reducible exact impl_ExprOk.mono _ _)
   |(with_reducible exact impl_showNode.mono _ _ _)
   |(with_reducible exact LeO.refl _)
   |(with_reducible exact LeO.none _)
   |(with_reducible refine LeO.ite ?_ ?_)
   |(with_reducible refine LeO.bind ?_ (fun _ => ?_))
theorem impl_ShowExpr.mono : ∀ a0 k,LeO (impl_ShowExpr.f k a0) (impl_ShowExpr.f (k + 1) a0):=by
 intro a0 k
 obtain ⟨ih0,ih1⟩:=impl_ShowExpr.mono_l k
 unfold impl_ShowExpr.f
 repeat' first
   |(with_reducible exact ih0 _ _ _ _ _)
   |(with_reducible exact ih1 _ _ _ _ _ _ _ _ _)
   |(with_reducible exact impl_ExprOk.mono _ _)
   |(with_reducible exact impl_showNode.mono _ _ _)
   |(with_reducible exact LeO.refl _)
   |(with_reducible exact LeO.none _)
   |(with_reducible refine LeO.ite ?_ ?_)
   |(with_reducible refine LeO.bind ?_ (fun _ => ?_))
set_option maxHeartbeats 8000000 in
set_option maxRecDepth 100000 in
theorem impl_ShowExpr.calls (k : Nat) (A0_0 : Option Addr) (c0_0 : Nat) (l0_0 : List (S70)) (r : ByteArray) (w : World) (hr0_0 : Kd.C k70 w A0_0 l0_0.length l0_0) (hc0_0 : l0_0.length ≤ c0_0) (htab_ : Tb w) (h : impl_ShowExpr.f k l0_0 = some r) :
  Calls Tryd.prog 23 #[.agg #[.slice A0_0 l0_0.length c0_0]] w fun e w' => e = .returned (.string r) ∧ Below w.heap.size w w':=by
 have HTAB:=zm_ htab_
 clear htab_
 have hu44:=Tryd.underlying44
 have hu70:=Tryd.underlying70
 have HR0_0:=zm_ hr0_0
 have HC0_0:=zm_ hc0_0
 clear hr0_0 hc0_0
 have HB:=zm_ (Below.refl w.heap.size w)
 have H : ((impl_ExprOk.f k l0_0).bind fun t222 => (if t222 = true then (impl_ShowExpr.l0 k (([] : List Int)) l0_0 (l0_0.length : Int) 0 l0_0) else (some (⟨#[]⟩ : ByteArray)))) = some r:=h
 clear h
 replace H:=Option.bind_eq_some_iff.mp H
 obtain ⟨t222,A20,H⟩:=H
 replace H : (if t222 = true then (impl_ShowExpr.l0 k (([] : List Int)) l0_0 (l0_0.length : Int) 0 l0_0) else (some (⟨#[]⟩ : ByteArray))) = some r:=H
 have A2:=zm_ A20
 clear A20
 by_cases c3 : t222 = true
 ·subst c3
  have H1 : (impl_ShowExpr.l0 k (([] : List Int)) l0_0 (l0_0.length : Int) 0 l0_0) = some r:=by rw [if_pos rfl] at H;exact H
  clear H
  have H:=H1
  clear H1
  obtain ⟨y223,hy223⟩ : ∃ y_ : List Int,y_ = (([] : List Int)):=⟨_,rfl⟩
  replace H : (impl_ShowExpr.l0 k y223 l0_0 (l0_0.length : Int) 0 l0_0) = some r:=by first|(rw [hy223];with_reducible exact H)|(have H2_:=(Option.bind_some _ _).symm.trans H;rw [hy223];with_reducible exact H2_)|(have H2_:=(Option.bind_some _ _).symm.trans H;with_reducible exact H2_)|with_reducible exact H|(rw [hy223];exact H)|exact H
  have Ny223:=zm_ hy223
  clear hy223
  have H':=zm_ H
  clear H
  go_enter Tryd.func23,Tryd.ntmps23
  go_wp2_with (first|((with_reducible refine gate_dst (N:=1) rfl ?_);refine box_event ?hg (N:=1) ?hd (cs:=#[.slice A0_0 l0_0.length c0_0]) (t:=44) ?hr ?_;(case hd => rfl);(case hg => rfl);(case hr => first|(go_simp;done)|(go_simp;rfl));intro gb221 hg w4 hbox hb;have n0_:=zm_ (below_step (by repeat (first|(with_reducible first|exact HB.out|apply za_|apply zn_|apply zd_)|exact HB.out)) hb);have n1_:=zm_ (hbox);have n2_:=zm_ ((by rw [hg];exact (below_size (by repeat (first|(with_reducible first|exact HB.out|apply za_|apply zn_|apply zd_)|exact HB.out))) : w.heap.size ≤ gb221));have n3_:=zm_ ((by rw [hg];exact (below_size (by repeat (first|(with_reducible first|exact HB.out|apply za_|apply zn_|apply zd_)|exact HB.out))) : w.heap.size ≤ gb221));clear HB;have HB:=n0_;have BK221:=n1_;have GW221:=n2_;have GE221:=n3_;clear n0_ n1_ n2_ n3_;clear hb hbox hg;have hcz5_0 : w4.cell? ⟨gb221,0,none⟩ = some (.slice A0_0 l0_0.length c0_0):=(zc_ BK221.out 0).trans rfl;have hfz5_0:=zf_ BK221.out 0)|((with_reducible refine gate_callee (f:=45) rfl ?_);refine goesL_ (some 10) rfl rfl Tryd.func45 (by kernel_rfl) rfl #[.agg #[.slice A0_0 l0_0.length c0_0]] rfl (by (try simp only [List.map_toArray,List.map_cons,List.map_nil]);first|done|rfl|(simp only [List.length_drop,List.length_take];rfl)) ?_;(with_reducible refine (impl_ExprOk.calls k _ _ l0_0 true _ ?side1 ?side2 A2.out).mono ?_);(case side1 => repeat (first|exact (Kd.C_below HR0_0.out HB.out)|(with_reducible refine Kd.C_alloc ?_ _)|(with_reducible refine Kd.C_drewN ?_ _)|(with_reducible refine Kd.C_drew ?_)));(case side2 => exact HC0_0.out);rintro e w6 ⟨rfl,hb⟩;refine ⟨_,rfl,?_⟩;have n0_:=zm_ (blk_below (g:=gb221) (o:=.cells #[.slice A0_0 l0_0.length c0_0] 44 (0,0)) (by (with_reducible repeat first|refine zl_ ?_ _|refine zr_ ?_|refine zk_ ?_ _);exact BK221.out) hb);have n1_:=zm_ (below_step (by repeat (first|(with_reducible first|exact HB.out|apply za_|apply zn_|apply zd_|refine zs_ ?_ GE221.out)|exact HB.out)) hb);clear BK221;clear HB;have BK221:=n0_;have HB:=n1_;clear n0_ n1_;(try clear hb);(try clear hb2);(try clear hk);(try clear hi))|((with_reducible refine gate_dst (N:=12) rfl ?_);refine Kd.R_lit (Kd.int .i64) _ 3 ?hg (N:=12) ?hd (xs:=([] : List Int)) (inner:=[]) (ok:=fun _ => True) (okp:=fun _ => True) ?hr ?hp (fun _ hk => hk) trivial (Below.refl _ _) (Nat.le_refl _) (by simp) ?_;(case hd => rfl);(case hg => rfl);(case hr => first|(go_simp;done)|(go_simp;rfl));(case hp => exact (Reps.none _ _));intro v224 w7 ho8 hb hg_ hnew_;clear hg_ hnew_;(first|rw [← Ny223.out] at ho8|(simp only [Int.reduceToNat] at ho8;rw [← Ny223.out] at ho8));have n0_:=zm_ (Kd.R_lower ho8 (below_size (by repeat (first|(with_reducible first|exact HB.out|apply za_|apply zn_|apply zd_|refine zs_ ?_ GE221.out)|exact HB.out))));have n1_:=zm_ (blk_below (g:=gb221) (o:=.cells #[.slice A0_0 l0_0.length c0_0] 44 (0,0)) (by (with_reducible repeat first|refine zl_ ?_ _|refine zr_ ?_|refine zk_ ?_ _);exact BK221.out) hb);have n2_:=zm_ (below_step (by repeat (first|(with_reducible first|exact HB.out|apply za_|apply zn_|apply zd_|refine zs_ ?_ GE221.out)|exact HB.out)) hb);clear BK221;clear HB;have HO225:=n0_;have BK221:=n1_;have HB:=n2_;clear n0_ n1_ n2_;clear hb ho8;have hcz9_0 : w7.cell? ⟨gb221,0,none⟩ = some (.slice A0_0 l0_0.length c0_0):=(zc_ BK221.out 0).trans rfl;have hfz9_0:=zf_ BK221.out 0))
  go_loopg [3,16] k (fun kq v3 v16 w' => ∃ (x3_1 : List Int) (x16_1 : Int),v16 = .int .i64 x16_1 ∧ Aside0 (impl_ShowExpr.l0 kq x3_1 l0_0 (l0_0.length : Int) x16_1 l0_0 = some r) ∧ Aside0 (kq ≤ k) ∧ Aside0 (Kd.R (Kd.int .i64) 3 w' w.heap.size (fun _ => True) v3 x3_1) ∧ Aside0 (w'.heap[gb221]? = some (.cells #[(.slice A0_0 l0_0.length c0_0)] 44 (0,0))) ∧ Aside0 (Below w.heap.size w w'))
  case atStart => exact ⟨(y223),(0),(by first|rfl|(exact congrArg Value.bool (isEmpty_ne _))|(exact congrArg Value.bool (isEmpty_ne' _))|(exact congrArg Value.bool (isEmpty_eq _))|(simp;done)|(simp [*];done)),H',⟨Nat.le_refl _⟩,⟨by (with_reducible repeat (first|apply Kd.R_alloc|apply Kd.R_drewN|apply Kd.R_drew));exact HO225.out⟩,⟨by (with_reducible repeat first|refine zl_ ?_ _|refine zr_ ?_|refine zk_ ?_ _);exact BK221.out⟩,⟨by repeat (first|(with_reducible first|exact HB.out|apply za_|apply zn_|apply zd_|refine zs_ ?_ GE221.out)|exact HB.out)⟩⟩
  case round =>
   clear H'
   try clear c2
   try clear p2
   try clear c3
   try clear c4
   try clear hcz5_0
   try clear hcz9_0
   try clear hfz5_0
   try clear hfz9_0
   obtain ⟨x3_1,x16_1,rfl,HA,HK1,HO_3,BK221,HB⟩:=hrel
   cases gk with
   |zero => exact absurd HA.out (by simp [impl_ShowExpr.l0])
   |succ k1 =>
    have H:=HA.out
    clear HA
    simp only [impl_ShowExpr.l0] at H
    by_cases c10 : x16_1 < (l0_0.length : Int)
    ·rw [if_pos c10] at H
     have c10b0 : decide (x16_1 < (l0_0.length : Int)) = true:=decide_eq_true c10
     clear c10
     by_cases c11 : 0 ≤ x16_1
     ·rw [if_pos c11] at H
      have c11b0 : decide (0 ≤ x16_1) = true:=decide_eq_true c11
      clear c11
      by_cases c12 : x16_1 < (l0_0.length : Int)
      ·rw [if_pos c12] at H
       have c12b0 : decide (x16_1 < (l0_0.length : Int)) = true:=decide_eq_true c12
       clear c12
       have H':=zm_ H
       clear H
       have p228 : 0 ≤ (x16_1 : Int):=zo_
       have q228 : x16_1 < (l0_0.length : Int):=zo_
       obtain ⟨ad228,A228_3,c228_3,e228,hx228_0,hx228_1,hx228_2,hx228_3,hl228_3,hi228_3⟩:=at_T70 HR0_0.out x16_1 p228 q228
       cases e228
       replace hx228_0:=(HB.out.cell (zb_ w _ hx228_0)).trans hx228_0
       replace hx228_1:=(HB.out.cell (zb_ w _ hx228_1)).trans hx228_1
       replace hx228_2:=(HB.out.cell (zb_ w _ hx228_2)).trans hx228_2
       replace hx228_3:=(HB.out.cell (zb_ w _ hx228_3)).trans hx228_3
       have HR228_3:=zm_ hi228_3
       have HC228_3:=zm_ hl228_3
       clear hi228_3 hl228_3
       replace p228:=eq_true p228
       replace q228:=eq_true q228
       go_wp2_with (first|((with_reducible refine gate_dst (N:=5) rfl ?_);refine box_event ?hg (N:=5) ?hd (cs:=#[.int .i64 0,.int .i64 0,.string (⟨#[]⟩ : ByteArray),.slice none 0 0]) (t:=70) ?hr ?_;(case hd => rfl);(case hg => rfl);(case hr => first|(go_simp;done)|(go_simp;rfl));intro gb229 hg w13 hbox hb;have n0_:=zm_ (Kd.R_below (by (with_reducible repeat (first|apply Kd.R_alloc|apply Kd.R_drewN|apply Kd.R_drew));exact HO_3.out) hb);have n1_:=zm_ (blk_below (g:=gb221) (o:=.cells #[.slice (some ad228) l0_0.length c0_0] 44 (0,0)) (by (with_reducible repeat first|refine zl_ ?_ _|refine zr_ ?_|refine zk_ ?_ _);exact BK221.out) hb);have n2_:=zm_ (below_step (by repeat (first|(with_reducible first|exact HB.out|apply za_|apply zn_|apply zd_|refine zs_ ?_ GE221.out)|exact HB.out)) hb);have n3_:=zm_ (hbox);have n4_:=zm_ ((by rw [hg];exact (below_size (by repeat (first|(with_reducible first|exact HB.out|apply za_|apply zn_|apply zd_|refine zs_ ?_ GE221.out)|exact HB.out))) : w.heap.size ≤ gb229));have n5_:=zm_ ((by rw [hg];exact (below_size (by repeat (first|(with_reducible first|exact HB.out|apply za_|apply zn_|apply zd_|refine zs_ ?_ GE221.out)|exact HB.out))) : w.heap.size ≤ gb229));have n6_:=zm_ ((by rw [hg];exact Nat.ne_of_lt (blk_lt (g:=gb221) (o:=.cells #[.slice (some ad228) l0_0.length c0_0] 44 (0,0)) (by (with_reducible repeat first|refine zl_ ?_ _|refine zr_ ?_|refine zk_ ?_ _);exact BK221.out)) : gb221 ≠ gb229));have n7_:=zm_ ((by rw [hg];exact Nat.ne_of_gt (blk_lt (g:=gb221) (o:=.cells #[.slice (some ad228) l0_0.length c0_0] 44 (0,0)) (by (with_reducible repeat first|refine zl_ ?_ _|refine zr_ ?_|refine zk_ ?_ _);exact BK221.out)) : gb229 ≠ gb221));clear HO_3;clear BK221;clear HB;have HO_3:=n0_;have BK221:=n1_;have HB:=n2_;have BK229:=n3_;have GW229:=n4_;have GE229:=n5_;have NB221_229:=n6_;have NB229_221:=n7_;clear n0_ n1_ n2_ n3_ n4_ n5_ n6_ n7_;clear hb hbox hg;have hnb14:=NB229_221.out;have hnc14:=NB221_229.out;have hcz15_0 : w13.cell? ⟨gb229,0,none⟩ = some (.int .i64 0):=(zc_ BK229.out 0).trans rfl;have hcz15_1 : w13.cell? ⟨gb229,1,none⟩ = some (.int .i64 0):=(zc_ BK229.out 1).trans rfl;have hcz15_2 : w13.cell? ⟨gb229,2,none⟩ = some (.string (⟨#[]⟩ : ByteArray)):=(zc_ BK229.out 2).trans rfl;have hcz15_3 : w13.cell? ⟨gb229,3,none⟩ = some (.slice none 0 0):=(zc_ BK229.out 3).trans rfl;have hfz15_0:=zf_ BK229.out 0;have hfz15_1:=zf_ BK229.out 1;have hfz15_2:=zf_ BK229.out 2;have hfz15_3:=zf_ BK229.out 3))
       go_loopg [6,23] k1 (fun kq v6 v23 w' => ∃ (x6_2 : Int) (x23_2 : Int),v6 = .int .i64 x6_2 ∧ v23 = .int .i64 x23_2 ∧ Aside0 (impl_ShowExpr.l1 kq x3_1 x6_2 l0_0 (l0_0.length : Int) x16_1 ((rd_T70 l0_0 x16_1).f3) (((rd_T70 l0_0 x16_1).f3).length : Int) x23_2 l0_0 = some r) ∧ Aside0 (kq ≤ k1) ∧ Aside0 (Kd.R (Kd.int .i64) 3 w' w.heap.size (fun _ => True) u3 x3_1) ∧ Aside0 (w'.heap[gb221]? = some (.cells #[(.slice (some ad228) l0_0.length c0_0)] 44 (0,0))) ∧ Aside0 (w'.heap[gb229]? = some (.cells #[.int .i64 ((rd_T70 l0_0 x16_1).f0),.int .i64 ((rd_T70 l0_0 x16_1).f1),.string ((rd_T70 l0_0 x16_1).f2),(.slice A228_3 ((rd_T70 l0_0 x16_1).f3).length c228_3)] 70 (0,0))) ∧ Aside0 (Below w.heap.size w w'))
       case atStart => exact ⟨(1),(0),(by first|rfl|(exact congrArg Value.bool (isEmpty_ne _))|(exact congrArg Value.bool (isEmpty_ne' _))|(exact congrArg Value.bool (isEmpty_eq _))|(simp;done)|(simp [*];done)),(by first|rfl|(exact congrArg Value.bool (isEmpty_ne _))|(exact congrArg Value.bool (isEmpty_ne' _))|(exact congrArg Value.bool (isEmpty_eq _))|(simp;done)|(simp [*];done)),H',⟨Nat.le_refl _⟩,⟨by (with_reducible repeat (first|apply Kd.R_alloc|apply Kd.R_drewN|apply Kd.R_drew));exact Kd.R_mono (Kd.R_far (p:=⟨gb229,3,none⟩) (Kd.R_far (p:=⟨gb229,2,none⟩) (Kd.R_far (p:=⟨gb229,1,none⟩) (Kd.R_far (p:=⟨gb229,0,none⟩) (Kd.R_types HO_3.out BK229.out (by decide)) (fun _ hk => hk.2) (.int .i64 ((rd_T70 l0_0 x16_1).f0))) (fun _ hk => hk.2) (.int .i64 ((rd_T70 l0_0 x16_1).f1))) (fun _ hk => hk.2) (.string ((rd_T70 l0_0 x16_1).f2))) (fun _ hk => hk.2) (.slice A228_3 ((rd_T70 l0_0 x16_1).f3).length c228_3)) (fun _ hk => trivial)⟩,⟨by (with_reducible repeat first|refine zl_ ?_ _|refine zr_ ?_|refine zk_ ?_ _);refine blk_far ?_ NB221_229.out _;(with_reducible repeat first|refine zl_ ?_ _|refine zr_ ?_|refine zk_ ?_ _);refine blk_far ?_ NB221_229.out _;(with_reducible repeat first|refine zl_ ?_ _|refine zr_ ?_|refine zk_ ?_ _);refine blk_far ?_ NB221_229.out _;(with_reducible repeat first|refine zl_ ?_ _|refine zr_ ?_|refine zk_ ?_ _);refine blk_far ?_ NB221_229.out _;(with_reducible repeat first|refine zl_ ?_ _|refine zr_ ?_|refine zk_ ?_ _);exact BK221.out⟩,⟨by (with_reducible repeat first|refine zl_ ?_ _|refine zr_ ?_|refine zk_ ?_ _);refine blk_put (cs:=#[.int .i64 ((rd_T70 l0_0 x16_1).f0),.int .i64 ((rd_T70 l0_0 x16_1).f1),.string ((rd_T70 l0_0 x16_1).f2),.slice none 0 0]) ?_ 3 _ rfl;(with_reducible repeat first|refine zl_ ?_ _|refine zr_ ?_|refine zk_ ?_ _);refine blk_put (cs:=#[.int .i64 ((rd_T70 l0_0 x16_1).f0),.int .i64 ((rd_T70 l0_0 x16_1).f1),.string (⟨#[]⟩ : ByteArray),.slice none 0 0]) ?_ 2 _ rfl;(with_reducible repeat first|refine zl_ ?_ _|refine zr_ ?_|refine zk_ ?_ _);refine blk_put (cs:=#[.int .i64 ((rd_T70 l0_0 x16_1).f0),.int .i64 0,.string (⟨#[]⟩ : ByteArray),.slice none 0 0]) ?_ 1 _ rfl;(with_reducible repeat first|refine zl_ ?_ _|refine zr_ ?_|refine zk_ ?_ _);refine blk_put (cs:=#[.int .i64 0,.int .i64 0,.string (⟨#[]⟩ : ByteArray),.slice none 0 0]) ?_ 0 _ rfl;(with_reducible repeat first|refine zl_ ?_ _|refine zr_ ?_|refine zk_ ?_ _);exact BK229.out⟩,⟨by repeat (first|(with_reducible first|exact HB.out|apply za_|apply zn_|apply zd_|refine zs_ ?_ GE221.out|refine zs_ ?_ GE229.out)|exact HB.out)⟩⟩
       case round =>
        clear H'
        try clear c1
        try clear c2
        try clear p2
        try clear q2
        try clear hx2
        try clear c3
        try clear c4
        try clear c10
        try clear c10b0
        try clear c11
        try clear c11b0
        try clear c12
        try clear c12b0
        try clear c14
        try clear hcz15_0
        try clear hcz15_1
        try clear hcz15_2
        try clear hcz15_3
        try clear hcz5_0
        try clear hcz9_0
        try clear hfz15_0
        try clear hfz15_1
        try clear hfz15_2
        try clear hfz15_3
        try clear hfz5_0
        try clear hfz9_0
        try clear hx228_0
        try clear hx228_1
        try clear hx228_2
        try clear hx228_3
        try clear p2
        try clear p228
        try clear q228
        obtain ⟨x6_2,x23_2,rfl,rfl,HA,HK2,HO_3,BK221,BK229,HB⟩:=hrel
        cases gk with
        |zero => exact absurd HA.out (by simp [impl_ShowExpr.l1])
        |succ k2 =>
         have H:=HA.out
         clear HA
         simp only [impl_ShowExpr.l1] at H
         by_cases c16 : x23_2 < (((rd_T70 l0_0 x16_1).f3).length : Int)
         ·rw [if_pos c16] at H
          have c16b0 : decide (x23_2 < (((rd_T70 l0_0 x16_1).f3).length : Int)) = true:=decide_eq_true c16
          clear c16
          by_cases c17 : 0 ≤ x23_2
          ·rw [if_pos c17] at H
           have c17b0 : decide (0 ≤ x23_2) = true:=decide_eq_true c17
           clear c17
           by_cases c18 : x23_2 < (((rd_T70 l0_0 x16_1).f3).length : Int)
           ·rw [if_pos c18] at H
            have c18b0 : decide (x23_2 < (((rd_T70 l0_0 x16_1).f3).length : Int)) = true:=decide_eq_true c18
            clear c18
            by_cases c19 : 0 ≤ (rd ((rd_T70 l0_0 x16_1).f3) x23_2)
            ·rw [if_pos c19] at H
             have c19b0 : decide (0 ≤ (rd ((rd_T70 l0_0 x16_1).f3) x23_2)) = true:=decide_eq_true c19
             clear c19
             by_cases c20 : (rd ((rd_T70 l0_0 x16_1).f3) x23_2) < (x3_1.length : Int)
             ·rw [if_pos c20] at H
              have c20b0 : decide ((rd ((rd_T70 l0_0 x16_1).f3) x23_2) < (x3_1.length : Int)) = true:=decide_eq_true c20
              clear c20
              have H':=zm_ H
              clear H
              have p230 : 0 ≤ (x23_2 : Int):=zo_
              have q230 : x23_2 < (((rd_T70 l0_0 x16_1).f3).length : Int):=zo_
              obtain ⟨ad230,e230,hx230_0⟩:=Kd.at_int HR228_3.out x23_2 p230 q230
              cases e230
              replace hx230_0:=(HB.out.cell (zb_ w _ hx230_0)).trans hx230_0
              replace p230:=eq_true p230
              replace q230:=eq_true q230
              obtain ⟨Ao21,co21,eo21⟩:=Kd.R_slice HO_3.out
              subst eo21
              have p231 : 0 ≤ ((rd ((rd_T70 l0_0 x16_1).f3) x23_2) : Int):=zo_
              have q231 : (rd ((rd_T70 l0_0 x16_1).f3) x23_2) < (x3_1.length : Int):=zo_
              obtain ⟨ad231,e231,hx231_0⟩:=Kd.at_int (Kd.R_reads' HO_3.out).2.2 (rd ((rd_T70 l0_0 x16_1).f3) x23_2) p231 q231
              cases e231
              replace p231:=eq_true p231
              replace q231:=eq_true q231
              go_wp2
              go_roundg k2
              case measure => have:=HK1.out;have:=HK2.out;omega
              case rel => exact ⟨(wrap64 (x6_2 + (rd x3_1 (rd ((rd_T70 l0_0 x16_1).f3) x23_2)))),(wrap64 (x23_2 + 1)),(by first|rfl|(exact congrArg Value.bool (isEmpty_ne _))|(exact congrArg Value.bool (isEmpty_ne' _))|(exact congrArg Value.bool (isEmpty_eq _))|(simp;done)|(simp [*];done)),(by first|rfl|(exact congrArg Value.bool (isEmpty_ne _))|(exact congrArg Value.bool (isEmpty_ne' _))|(exact congrArg Value.bool (isEmpty_eq _))|(simp;done)|(simp [*];done)),H',⟨by have:=HK1.out;have:=HK2.out;omega⟩,⟨by (with_reducible repeat (first|apply Kd.R_alloc|apply Kd.R_drewN|apply Kd.R_drew));exact HO_3.out⟩,⟨by (with_reducible repeat first|refine zl_ ?_ _|refine zr_ ?_|refine zk_ ?_ _);exact BK221.out⟩,⟨by (with_reducible repeat first|refine zl_ ?_ _|refine zr_ ?_|refine zk_ ?_ _);exact BK229.out⟩,⟨by repeat (first|(with_reducible first|exact HB.out|apply za_|apply zn_|apply zd_|refine zs_ ?_ GE221.out|refine zs_ ?_ GE229.out)|exact HB.out)⟩⟩
             ·rw [if_neg c20] at H
              exact absurd H (by simp)
            ·rw [if_neg c19] at H
             exact absurd H (by simp)
           ·rw [if_neg c18] at H
            exact absurd H (by simp)
          ·rw [if_neg c17] at H
           exact absurd H (by simp)
         ·rw [if_neg c16] at H
          have c16b0 : decide (x23_2 < (((rd_T70 l0_0 x16_1).f3).length : Int)) = false:=decide_eq_false c16
          clear c16
          obtain ⟨ji22,hji22⟩ : ∃ j_ : Int,(mn x6_2 201) = j_:=⟨_,rfl⟩
          replace H : (if x3_1.length < 17592186044416 then (impl_ShowExpr.l0 k2 (x3_1 ++ [ji22]) l0_0 (l0_0.length : Int) (wrap64 (x16_1 + 1)) l0_0) else (none)) = some r:=by first|(rw [hji22] at H;exact H)|(simp only [hji22] at H ⊢;exact H)
          have hji22_ : (if 201 < x6_2 then 201 else x6_2) = ji22:=hji22
          by_cases c23 : x3_1.length < 17592186044416
          ·rw [if_pos c23] at H
           have LMc23:=zm_ c23
           clear c23
           obtain ⟨y232,hy232⟩ : ∃ y_ : List Int,y_ = (x3_1 ++ [ji22]):=⟨_,rfl⟩
           replace H : (impl_ShowExpr.l0 k2 y232 l0_0 (l0_0.length : Int) (wrap64 (x16_1 + 1)) l0_0) = some r:=by first|(rw [hy232];with_reducible exact H)|(have H2_:=(Option.bind_some _ _).symm.trans H;rw [hy232];with_reducible exact H2_)|(have H2_:=(Option.bind_some _ _).symm.trans H;with_reducible exact H2_)|with_reducible exact H|(rw [hy232];exact H)|exact H
           have Ny232:=zm_ hy232
           clear hy232
           have H':=zm_ H
           clear H
           go_wp2_with (first|((with_reducible refine gate_builtin (b:=.append) (xs:=#[.tmp 34,.tmp 37]) rfl ?_);at_builtin;refine Kd.R_append (Kd.int .i64) (w0:=w) w.heap.size rfl (.tmp 34) (.tmp 37) 68 3 (.int .i64 0) 8 rfl Tryd.underlying68 info3 rfl (by decide) (by omega) u3 x3_1 ji22 [.int .i64 ji22] (fun _ => True) (fun _ => False) rfl rfl ?aP (fun _ hk => hk.elim) ?aF ?aO ?aB ?aS ?aL ?_;(case aP => exact rfl);(case aB => exact (by repeat (first|(with_reducible first|exact HB.out|apply za_|apply zn_|apply zd_|refine zs_ ?_ GE221.out|refine zs_ ?_ GE229.out)|exact HB.out)));(case aF => exact (fun _ _ => trivial));(case aO => exact (by (with_reducible repeat (first|apply Kd.R_alloc|apply Kd.R_drewN|apply Kd.R_drew));exact HO_3.out));(case aS => exact (below_size (by repeat (first|(with_reducible first|exact HB.out|apply za_|apply zn_|apply zd_|refine zs_ ?_ GE221.out|refine zs_ ?_ GE229.out)|exact HB.out))));(case aL => have:=LMc23.out;omega);intro v233 w24 ho hb hg hat;rw [← Ny232.out] at ho;have n0_:=zm_ (blk_grown (g:=gb221) (o:=.cells #[.slice (some ad228) l0_0.length c0_0] 44 (0,0)) (by (with_reducible repeat first|refine zl_ ?_ _|refine zr_ ?_|refine zk_ ?_ _);exact BK221.out) hg (Kd.R_ne HO_3.out BK221.out (by decide)));have n1_:=zm_ (blk_grown (g:=gb229) (o:=.cells #[.int .i64 ((rd_T70 l0_0 x16_1).f0),.int .i64 ((rd_T70 l0_0 x16_1).f1),.string ((rd_T70 l0_0 x16_1).f2),.slice A228_3 ((rd_T70 l0_0 x16_1).f3).length c228_3] 70 (0,0)) (by (with_reducible repeat first|refine zl_ ?_ _|refine zr_ ?_|refine zk_ ?_ _);exact BK229.out) hg (Kd.R_ne HO_3.out BK229.out (by decide)));have n2_:=zm_ (hb);have n3_:=zm_ (ho);clear BK221;clear BK229;clear HB;clear HO_3;have BK221:=n0_;have BK229:=n1_;have HB:=n2_;have HO234:=n3_;clear n0_ n1_ n2_ n3_;clear ho hb hg hat))
           go_roundg k2
           case measure => have:=HK1.out;have:=HK2.out;omega
           case rel => exact ⟨(y232),(wrap64 (x16_1 + 1)),(by first|rfl|(exact congrArg Value.bool (isEmpty_ne _))|(exact congrArg Value.bool (isEmpty_ne' _))|(exact congrArg Value.bool (isEmpty_eq _))|(simp;done)|(simp [*];done)),H',⟨by have:=HK1.out;have:=HK2.out;omega⟩,⟨by (with_reducible repeat (first|apply Kd.R_alloc|apply Kd.R_drewN|apply Kd.R_drew));exact HO234.out⟩,⟨by (with_reducible repeat first|refine zl_ ?_ _|refine zr_ ?_|refine zk_ ?_ _);exact BK221.out⟩,⟨by repeat (first|(with_reducible first|exact HB.out|apply za_|apply zn_|apply zd_|refine zs_ ?_ GE221.out|refine zs_ ?_ GE229.out)|exact HB.out)⟩⟩
          ·rw [if_neg c23] at H
           exact absurd H (by simp)
      ·rw [if_neg c12] at H
       exact absurd H (by simp)
     ·rw [if_neg c11] at H
      exact absurd H (by simp)
    ·rw [if_neg c10] at H
     have c10b0 : decide (x16_1 < (l0_0.length : Int)) = false:=decide_eq_false c10
     clear c10
     obtain ⟨ji25,hji25⟩ : ∃ j_ : Int,(wrap64 ((x3_1.length : Int) - 1)) = j_:=⟨_,rfl⟩
     replace H : (if 0 ≤ (ji25) then (if (ji25) < (x3_1.length : Int) then (if (rd x3_1 (ji25)) > 200 then (some (⟨#[]⟩ : ByteArray)) else ((impl_showNode.f k1 l0_0 (wrap64 ((l0_0.length : Int) - 1))).bind fun t227 => (some t227))) else (none)) else (none)) = some r:=by first|(rw [hji25] at H;exact H)|(simp only [hji25] at H ⊢;exact H)
     have hji25w : (IntKind.i64.wrap ((x3_1.length : Int) - 1)) = ji25:=(i64_w _).trans hji25
     by_cases c26 : 0 ≤ (ji25)
     ·rw [if_pos c26] at H
      have c26b0 : decide (0 ≤ (ji25)) = true:=decide_eq_true c26
      clear c26
      by_cases c27 : (ji25) < (x3_1.length : Int)
      ·rw [if_pos c27] at H
       have c27b0 : decide ((ji25) < (x3_1.length : Int)) = true:=decide_eq_true c27
       clear c27
       by_cases c28 : (rd x3_1 (ji25)) > 200
       ·rw [if_pos c28] at H
        have c28b0 : decide (200 < (rd x3_1 (ji25))) = true:=decide_eq_true c28
        clear c28
        obtain rfl:=Option.some.inj H
        obtain ⟨Ao29,co29,eo29⟩:=Kd.R_slice HO_3.out
        subst eo29
        have p226 : 0 ≤ ((ji25) : Int):=zo_
        have q226 : (ji25) < (x3_1.length : Int):=zo_
        obtain ⟨ad226,e226,hx226_0⟩:=Kd.at_int (Kd.R_reads' HO_3.out).2.2 (ji25) p226 q226
        cases e226
        replace p226:=eq_true p226
        replace q226:=eq_true q226
        go_wp2
        go_ret
        exact ⟨by first|rfl|(simp [errW_none,errW_some] <;> rfl)|(simp only [← hji25];first|rfl|(simp [errW_none,errW_some] <;> rfl))|(simp [*,errW_none,errW_some] <;> rfl),by repeat (first|(with_reducible first|exact HB.out|apply za_|apply zn_|apply zd_|refine zs_ ?_ GE221.out)|exact HB.out)⟩
       ·rw [if_neg c28] at H
        have c28b0 : decide (200 < (rd x3_1 (ji25))) = false:=decide_eq_false c28
        clear c28
        replace H:=Option.bind_eq_some_iff.mp H
        obtain ⟨t227,A300,H⟩:=H
        replace H : (some t227) = some r:=H
        have A30:=zm_ A300
        clear A300
        obtain rfl:=Option.some.inj H
        obtain ⟨Ao31,co31,eo31⟩:=Kd.R_slice HO_3.out
        subst eo31
        have p226 : 0 ≤ ((ji25) : Int):=zo_
        have q226 : (ji25) < (x3_1.length : Int):=zo_
        obtain ⟨ad226,e226,hx226_0⟩:=Kd.at_int (Kd.R_reads' HO_3.out).2.2 (ji25) p226 q226
        cases e226
        replace p226:=eq_true p226
        replace q226:=eq_true q226
        have hcz32_0 : wr.cell? ⟨gb221,0,none⟩ = some (.slice A0_0 l0_0.length c0_0):=(zc_ BK221.out 0).trans rfl
        have hfz32_0:=zf_ BK221.out 0
        go_wp2_with (first|((with_reducible refine gate_callee (f:=46) rfl ?_);refine goesL_ (some 52) rfl rfl Tryd.func46 (by kernel_rfl) rfl #[.agg #[.slice A0_0 l0_0.length c0_0],.int .i64 (wrap64 ((l0_0.length : Int) - 1))] rfl (by (try simp only [List.map_toArray,List.map_cons,List.map_nil]);first|done|rfl|(simp only [List.length_drop,List.length_take];rfl)) ?_;(with_reducible refine (impl_showNode.calls k1 _ _ l0_0 (wrap64 ((l0_0.length : Int) - 1)) t227 _ ?side1 ?side2 (Tb.below HTAB.out (by repeat (first|(with_reducible first|exact HB.out|apply za_|apply zn_|apply zd_|refine zs_ ?_ GE221.out)|exact HB.out))) A30.out).mono ?_);(case side1 => repeat (first|exact (Kd.C_below HR0_0.out HB.out)|(with_reducible refine Kd.C_alloc ?_ _)|(with_reducible refine Kd.C_drewN ?_ _)|(with_reducible refine Kd.C_drew ?_)));(case side2 => exact HC0_0.out);rintro e w33 ⟨rfl,hb⟩;refine ⟨_,rfl,?_⟩;have n0_:=zm_ (Kd.R_below (by (with_reducible repeat (first|apply Kd.R_alloc|apply Kd.R_drewN|apply Kd.R_drew));exact HO_3.out) hb);have n1_:=zm_ (blk_below (g:=gb221) (o:=.cells #[.slice A0_0 l0_0.length c0_0] 44 (0,0)) (by (with_reducible repeat first|refine zl_ ?_ _|refine zr_ ?_|refine zk_ ?_ _);exact BK221.out) hb);have n2_:=zm_ (below_step (by repeat (first|(with_reducible first|exact HB.out|apply za_|apply zn_|apply zd_|refine zs_ ?_ GE221.out)|exact HB.out)) hb);clear HO_3;clear BK221;clear HB;have HO_3:=n0_;have BK221:=n1_;have HB:=n2_;clear n0_ n1_ n2_;(try clear hb);(try clear hb2);(try clear hk);(try clear hi)))
        go_ret
        exact ⟨by first|rfl|(simp [errW_none,errW_some] <;> rfl)|(simp only [← hji25];first|rfl|(simp [errW_none,errW_some] <;> rfl))|(simp [*,errW_none,errW_some] <;> rfl),by repeat (first|(with_reducible first|exact HB.out|apply za_|apply zn_|apply zd_|refine zs_ ?_ GE221.out)|exact HB.out)⟩
      ·rw [if_neg c27] at H
       exact absurd H (by simp)
     ·rw [if_neg c26] at H
      exact absurd H (by simp)
 ·replace c3:=Bool.eq_false_iff.mpr c3
  subst c3
  have H1 : (some (⟨#[]⟩ : ByteArray)) = some r:=by rw [if_neg (show ¬ (false = true) by decide)] at H;exact H
  clear H
  have H:=H1
  clear H1
  obtain rfl:=Option.some.inj H
  go_enter Tryd.func23,Tryd.ntmps23
  go_wp2_with (first|((with_reducible refine gate_dst (N:=1) rfl ?_);refine box_event ?hg (N:=1) ?hd (cs:=#[.slice A0_0 l0_0.length c0_0]) (t:=44) ?hr ?_;(case hd => rfl);(case hg => rfl);(case hr => first|(go_simp;done)|(go_simp;rfl));intro gb221 hg w34 hbox hb;have n0_:=zm_ (below_step (by repeat (first|(with_reducible first|exact HB.out|apply za_|apply zn_|apply zd_)|exact HB.out)) hb);have n1_:=zm_ (hbox);have n2_:=zm_ ((by rw [hg];exact (below_size (by repeat (first|(with_reducible first|exact HB.out|apply za_|apply zn_|apply zd_)|exact HB.out))) : w.heap.size ≤ gb221));have n3_:=zm_ ((by rw [hg];exact (below_size (by repeat (first|(with_reducible first|exact HB.out|apply za_|apply zn_|apply zd_)|exact HB.out))) : w.heap.size ≤ gb221));clear HB;have HB:=n0_;have BK221:=n1_;have GW221:=n2_;have GE221:=n3_;clear n0_ n1_ n2_ n3_;clear hb hbox hg;have hcz35_0 : w34.cell? ⟨gb221,0,none⟩ = some (.slice A0_0 l0_0.length c0_0):=(zc_ BK221.out 0).trans rfl;have hfz35_0:=zf_ BK221.out 0)|((with_reducible refine gate_callee (f:=45) rfl ?_);refine goesL_ (some 10) rfl rfl Tryd.func45 (by kernel_rfl) rfl #[.agg #[.slice A0_0 l0_0.length c0_0]] rfl (by (try simp only [List.map_toArray,List.map_cons,List.map_nil]);first|done|rfl|(simp only [List.length_drop,List.length_take];rfl)) ?_;(with_reducible refine (impl_ExprOk.calls k _ _ l0_0 false _ ?side1 ?side2 A2.out).mono ?_);(case side1 => repeat (first|exact (Kd.C_below HR0_0.out HB.out)|(with_reducible refine Kd.C_alloc ?_ _)|(with_reducible refine Kd.C_drewN ?_ _)|(with_reducible refine Kd.C_drew ?_)));(case side2 => exact HC0_0.out);rintro e w36 ⟨rfl,hb⟩;refine ⟨_,rfl,?_⟩;have n0_:=zm_ (blk_below (g:=gb221) (o:=.cells #[.slice A0_0 l0_0.length c0_0] 44 (0,0)) (by (with_reducible repeat first|refine zl_ ?_ _|refine zr_ ?_|refine zk_ ?_ _);exact BK221.out) hb);have n1_:=zm_ (below_step (by repeat (first|(with_reducible first|exact HB.out|apply za_|apply zn_|apply zd_|refine zs_ ?_ GE221.out)|exact HB.out)) hb);clear BK221;clear HB;have BK221:=n0_;have HB:=n1_;clear n0_ n1_;(try clear hb);(try clear hb2);(try clear hk);(try clear hi)))
  go_ret
  exact ⟨by first|rfl|(simp [errW_none,errW_some] <;> rfl)|(simp [*,errW_none,errW_some] <;> rfl),by repeat (first|(with_reducible first|exact HB.out|apply za_|apply zn_|apply zd_|refine zs_ ?_ GE221.out)|exact HB.out)⟩

def laws_eqIntS.l0 : Nat → List Int → List Int → Int → Option (Bool)
 |0,_,_,_ => none
 |k + 1,x0,x1,x5 => if x5 < (x0.length : Int) then (if 0 ≤ x5 then (if x5 < (x1.length : Int) then (if (rd x0 x5) = (rd x1 x5) then (laws_eqIntS.l0 k x0 x1 (wrap64 (x5 + 1))) else (some false)) else (none)) else (none)) else (some true)
def laws_eqIntS.f (k : Nat) (l0 : List Int) (l1 : List Int) : Option (Bool):=if (l0.length : Int) = (l1.length : Int) then (laws_eqIntS.l0 k l0 l1 0) else (some false)
theorem laws_eqIntS.mono_l : ∀ k,(∀ y0 y1 y2,LeO (laws_eqIntS.l0 k y0 y1 y2) (laws_eqIntS.l0 (k + 1) y0 y1 y2))
 |0 => fun _ _ _ r h => by simp [laws_eqIntS.l0] at h
 |k + 1 => by
  have ih0:=laws_eqIntS.mono_l k
  ·intro y0 y1 y2
   unfold laws_eqIntS.l0
   repeat' first
   |(with_reducible exact ih0 _ _ _)
   |(with_reducible exact LeO.refl _)
   |(with_reducible exact LeO.none _)
   |(with_reducible refine LeO.ite ?_ ?_)
   |(with_reducible refine LeO.bind ?_ (fun _ => ?_))
theorem laws_eqIntS.mono : ∀ a0 a1 k,LeO (laws_eqIntS.f k a0 a1) (laws_eqIntS.f (k + 1) a0 a1):=by
 intro a0 a1 k
 have ih0:=laws_eqIntS.mono_l k
 unfold laws_eqIntS.f
 repeat' first
   |(with_reducible exact ih0 _ _ _)
   |(with_reducible exact LeO.refl _)
   |(with_reducible exact LeO.none _)
   |(with_reducible refine LeO.ite ?_ ?_)
   |(with_reducible refine LeO.bind ?_ (fun _ => ?_))
set_option maxHeartbeats 8000000 in
set_option maxRecDepth 100000 in
theorem laws_eqIntS.calls (k : Nat) (A0 : Option Addr) (c0 : Nat) (l0 : List Int) (A1 : Option Addr) (c1 : Nat) (l1 : List Int) (r : Bool) (w : World) (hr0 : Kd.C (Kd.int .i64) w A0 l0.length l0) (hc0 : l0.length ≤ c0) (hr1 : Kd.C (Kd.int .i64) w A1 l1.length l1) (hc1 : l1.length ≤ c1) (h : laws_eqIntS.f k l0 l1 = some r) :
  Calls Tryd.prog 79 #[.slice A0 l0.length c0,.slice A1 l1.length c1] w fun e w' => e = .returned (.bool r) ∧ Drawn0 w w':=by
 have HR0:=zm_ hr0
 have HC0:=zm_ hc0
 clear hr0 hc0
 have HR1:=zm_ hr1
 have HC1:=zm_ hc1
 clear hr1 hc1
 have H : (if (l0.length : Int) = (l1.length : Int) then (laws_eqIntS.l0 k l0 l1 0) else (some false)) = some r:=h
 clear h
 by_cases c3 : (l0.length : Int) = (l1.length : Int)
 ·rw [if_pos c3] at H
  have c3b0 : ((l0.length : Int) == (l1.length : Int)) = true:=beq_iff_eq.mpr c3
  have c3b1 : ((l0.length : Int) != (l1.length : Int)) = false:=bne_eq_false_iff_eq.mpr c3
  have c3b2 : (l0.length == l1.length) = true:=by first|simpa using c3|(simp at c3 ⊢;omega)
  clear c3
  have H':=zm_ H
  clear H
  go_enter Tryd.func79,Tryd.ntmps79
  go_wp2
  repeat (go_quiet (fail);try go_wp2)
  go_loopg [5] k (fun kq v5 w' => ∃ (x5_1 : Int),v5 = .int .i64 x5_1 ∧ Aside0 (laws_eqIntS.l0 kq l0 l1 x5_1 = some r) ∧ Aside0 (kq ≤ k) ∧ Drawn0 w w')
  case atStart => exact ⟨(0),(by first|rfl|(exact congrArg Value.bool (isEmpty_ne _))|(exact congrArg Value.bool (isEmpty_ne' _))|(exact congrArg Value.bool (isEmpty_eq _))|(simp;done)|(simp [*];done)),H',⟨Nat.le_refl _⟩,by repeat (first|exact Drawn0.refl _|apply Drawn0.step)⟩
  case round =>
   clear H'
   try clear c1
   try clear p2
   try clear c3
   try clear c3b0
   try clear c3b1
   try clear c3b2
   obtain ⟨x5_1,rfl,HA,HK1,⟨m1,rfl⟩⟩:=hrel
   cases gk with
   |zero => exact absurd HA.out (by simp [laws_eqIntS.l0])
   |succ k1 =>
    have H:=HA.out
    clear HA
    simp only [laws_eqIntS.l0] at H
    by_cases c4 : x5_1 < (l0.length : Int)
    ·rw [if_pos c4] at H
     have c4b0 : decide (x5_1 < (l0.length : Int)) = true:=decide_eq_true c4
     clear c4
     by_cases c5 : 0 ≤ x5_1
     ·rw [if_pos c5] at H
      have c5b0 : decide (0 ≤ x5_1) = true:=decide_eq_true c5
      clear c5
      by_cases c6 : x5_1 < (l1.length : Int)
      ·rw [if_pos c6] at H
       have c6b0 : decide (x5_1 < (l1.length : Int)) = true:=decide_eq_true c6
       clear c6
       by_cases c7 : (rd l0 x5_1) = (rd l1 x5_1)
       ·rw [if_pos c7] at H
        have c7b0 : ((rd l0 x5_1) == (rd l1 x5_1)) = true:=beq_iff_eq.mpr c7
        have c7b1 : ((rd l0 x5_1) != (rd l1 x5_1)) = false:=bne_eq_false_iff_eq.mpr c7
        clear c7
        have H':=zm_ H
        clear H
        have p235 : 0 ≤ (x5_1 : Int):=zo_
        have q235 : x5_1 < (l0.length : Int):=zo_
        obtain ⟨ad235,e235,hx235_0⟩:=Kd.at_int HR0.out x5_1 p235 q235
        cases e235
        replace p235:=eq_true p235
        replace q235:=eq_true q235
        have p236 : 0 ≤ (x5_1 : Int):=zo_
        have q236 : x5_1 < (l1.length : Int):=zo_
        obtain ⟨ad236,e236,hx236_0⟩:=Kd.at_int HR1.out x5_1 p236 q236
        cases e236
        replace p236:=eq_true p236
        replace q236:=eq_true q236
        go_wp2
        repeat (go_quiet (fail);try go_wp2)
        go_roundg k1
        case measure => have:=HK1.out;omega
        case rel => exact ⟨(wrap64 (x5_1 + 1)),(by first|rfl|(exact congrArg Value.bool (isEmpty_ne _))|(exact congrArg Value.bool (isEmpty_ne' _))|(exact congrArg Value.bool (isEmpty_eq _))|(simp;done)|(simp [*];done)),H',⟨by have:=HK1.out;omega⟩,by repeat (first|exact Drawn0.refl _|apply Drawn0.step)⟩
       ·rw [if_neg c7] at H
        have c7b0 : ((rd l0 x5_1) == (rd l1 x5_1)) = false:=beq_eq_false_iff_ne.mpr c7
        have c7b1 : ((rd l0 x5_1) != (rd l1 x5_1)) = true:=bne_iff_ne.mpr c7
        obtain rfl:=Option.some.inj H
        have p235 : 0 ≤ (x5_1 : Int):=zo_
        have q235 : x5_1 < (l0.length : Int):=zo_
        obtain ⟨ad235,e235,hx235_0⟩:=Kd.at_int HR0.out x5_1 p235 q235
        cases e235
        replace p235:=eq_true p235
        replace q235:=eq_true q235
        have p236 : 0 ≤ (x5_1 : Int):=zo_
        have q236 : x5_1 < (l1.length : Int):=zo_
        obtain ⟨ad236,e236,hx236_0⟩:=Kd.at_int HR1.out x5_1 p236 q236
        cases e236
        replace p236:=eq_true p236
        replace q236:=eq_true q236
        go_wp2
        repeat (go_quiet (fail);try go_wp2)
        go_ret
        exact ⟨by first|rfl|(simp;done)|(simp [*];done),by repeat (first|exact Drawn0.refl _|apply Drawn0.step)⟩
      ·rw [if_neg c6] at H
       exact absurd H (by simp)
     ·rw [if_neg c5] at H
      exact absurd H (by simp)
    ·rw [if_neg c4] at H
     have c4b0 : decide (x5_1 < (l0.length : Int)) = false:=decide_eq_false c4
     clear c4
     obtain rfl:=Option.some.inj H
     go_wp2
     repeat (go_quiet (fail);try go_wp2)
     go_ret
     exact ⟨by first|rfl|(simp;done)|(simp [*];done),by repeat (first|exact Drawn0.refl _|apply Drawn0.step)⟩
 ·rw [if_neg c3] at H
  have c3b0 : ((l0.length : Int) == (l1.length : Int)) = false:=beq_eq_false_iff_ne.mpr c3
  have c3b1 : ((l0.length : Int) != (l1.length : Int)) = true:=bne_iff_ne.mpr c3
  have c3b2 : (l0.length == l1.length) = false:=by first|simpa using c3|(simp at c3 ⊢;omega)
  obtain rfl:=Option.some.inj H
  go_enter Tryd.func79,Tryd.ntmps79
  go_wp2
  repeat (go_quiet (fail);try go_wp2)
  go_ret
  exact ⟨by first|rfl|(simp;done)|(simp [*];done),by repeat (first|exact Drawn0.refl _|apply Drawn0.step)⟩

def laws_eqExNode.f (k : Nat) (a0_0 : Int) (a0_1 : Int) (a0_2 : ByteArray) (l0_3 : List Int) (a1_0 : Int) (a1_1 : Int) (a1_2 : ByteArray) (l1_3 : List Int) : Option (Bool):=if a0_0 = a1_0 then (if a0_1 = a1_1 then (if a0_2.toList = a1_2.toList then ((laws_eqIntS.f k l0_3 l1_3).bind fun t239 => (if t239 = true then (some true) else (some false))) else (some false)) else (some false)) else (some false)
theorem laws_eqExNode.mono : ∀ a0 a1 a2 a3 a4 a5 a6 a7 k,LeO (laws_eqExNode.f k a0 a1 a2 a3 a4 a5 a6 a7) (laws_eqExNode.f (k + 1) a0 a1 a2 a3 a4 a5 a6 a7):=by
 intro a0 a1 a2 a3 a4 a5 a6 a7 k
 unfold laws_eqExNode.f
 repeat' first
   |(with_reducible exact laws_eqIntS.mono _ _ _)
   |(with_reducible exact LeO.refl _)
   |(with_reducible exact LeO.none _)
   |(with_reducible refine LeO.ite ?_ ?_)
   |(with_reducible refine LeO.bind ?_ (fun _ => ?_))
set_option maxHeartbeats 8000000 in
set_option maxRecDepth 100000 in
theorem laws_eqExNode.calls (k : Nat) (a0_0 : Int) (a0_1 : Int) (a0_2 : ByteArray) (A0_3 : Option Addr) (c0_3 : Nat) (l0_3 : List Int) (a1_0 : Int) (a1_1 : Int) (a1_2 : ByteArray) (A1_3 : Option Addr) (c1_3 : Nat) (l1_3 : List Int) (r : Bool) (w : World) (hr0_3 : Kd.C (Kd.int .i64) w A0_3 l0_3.length l0_3) (hc0_3 : l0_3.length ≤ c0_3) (hr1_3 : Kd.C (Kd.int .i64) w A1_3 l1_3.length l1_3) (hc1_3 : l1_3.length ≤ c1_3) (h : laws_eqExNode.f k a0_0 a0_1 a0_2 l0_3 a1_0 a1_1 a1_2 l1_3 = some r) :
  Calls Tryd.prog 63 #[.agg #[.int .i64 a0_0,.int .i64 a0_1,.string a0_2,.slice A0_3 l0_3.length c0_3],.agg #[.int .i64 a1_0,.int .i64 a1_1,.string a1_2,.slice A1_3 l1_3.length c1_3]] w fun e w' => e = .returned (.bool r) ∧ Below w.heap.size w w':=by
 have hu70:=Tryd.underlying70
 have HR0_3:=zm_ hr0_3
 have HC0_3:=zm_ hc0_3
 clear hr0_3 hc0_3
 have HR1_3:=zm_ hr1_3
 have HC1_3:=zm_ hc1_3
 clear hr1_3 hc1_3
 have HB:=zm_ (Below.refl w.heap.size w)
 have H : (if a0_0 = a1_0 then (if a0_1 = a1_1 then (if a0_2.toList = a1_2.toList then ((laws_eqIntS.f k l0_3 l1_3).bind fun t239 => (if t239 = true then (some true) else (some false))) else (some false)) else (some false)) else (some false)) = some r:=h
 clear h
 by_cases c3 : a0_0 = a1_0
 ·rw [if_pos c3] at H
  have c3b0 : (a0_0 == a1_0) = true:=beq_iff_eq.mpr c3
  have c3b1 : (a0_0 != a1_0) = false:=bne_eq_false_iff_eq.mpr c3
  clear c3
  by_cases c4 : a0_1 = a1_1
  ·rw [if_pos c4] at H
   have c4b0 : (a0_1 == a1_1) = true:=beq_iff_eq.mpr c4
   have c4b1 : (a0_1 != a1_1) = false:=bne_eq_false_iff_eq.mpr c4
   clear c4
   by_cases c5 : a0_2.toList = a1_2.toList
   ·rw [if_pos c5] at H
    have c5b0 : (a0_2.toList == a1_2.toList) = true:=beq_iff_eq.mpr c5
    have c5b1 : (a0_2.toList != a1_2.toList) = false:=bne_eq_false_iff_eq.mpr c5
    clear c5
    replace H:=Option.bind_eq_some_iff.mp H
    obtain ⟨t239,A60,H⟩:=H
    replace H : (if t239 = true then (some true) else (some false)) = some r:=H
    have A6:=zm_ A60
    clear A60
    by_cases c7 : t239 = true
    ·subst c7
     have H1 : (some true) = some r:=by rw [if_pos rfl] at H;exact H
     clear H
     have H:=H1
     clear H1
     obtain rfl:=Option.some.inj H
     go_enter Tryd.func63,Tryd.ntmps63
     go_wp2_with (first|((with_reducible refine gate_dst (N:=2) rfl ?_);refine box_event ?hg (N:=2) ?hd (cs:=#[.int .i64 a0_0,.int .i64 a0_1,.string a0_2,.slice A0_3 l0_3.length c0_3]) (t:=70) ?hr ?_;(case hd => rfl);(case hg => rfl);(case hr => first|(go_simp;done)|(go_simp;rfl));intro gb237 hg w8 hbox hb;have n0_:=zm_ (below_step (by repeat (first|(with_reducible first|exact HB.out|apply za_|apply zn_|apply zd_)|exact HB.out)) hb);have n1_:=zm_ (hbox);have n2_:=zm_ ((by rw [hg];exact (below_size (by repeat (first|(with_reducible first|exact HB.out|apply za_|apply zn_|apply zd_)|exact HB.out))) : w.heap.size ≤ gb237));have n3_:=zm_ ((by rw [hg];exact (below_size (by repeat (first|(with_reducible first|exact HB.out|apply za_|apply zn_|apply zd_)|exact HB.out))) : w.heap.size ≤ gb237));clear HB;have HB:=n0_;have BK237:=n1_;have GW237:=n2_;have GE237:=n3_;clear n0_ n1_ n2_ n3_;clear hb hbox hg)|((with_reducible refine gate_dst (N:=3) rfl ?_);refine box_event ?hg (N:=3) ?hd (cs:=#[.int .i64 a1_0,.int .i64 a1_1,.string a1_2,.slice A1_3 l1_3.length c1_3]) (t:=70) ?hr ?_;(case hd => rfl);(case hg => rfl);(case hr => first|(go_simp;done)|(go_simp;rfl));intro gb238 hg w9 hbox hb;have n0_:=zm_ (blk_below (g:=gb237) (o:=.cells #[.int .i64 a0_0,.int .i64 a0_1,.string a0_2,.slice A0_3 l0_3.length c0_3] 70 (0,0)) (by (with_reducible repeat first|refine zl_ ?_ _|refine zr_ ?_|refine zk_ ?_ _);exact BK237.out) hb);have n1_:=zm_ (below_step (by repeat (first|(with_reducible first|exact HB.out|apply za_|apply zn_|apply zd_|refine zs_ ?_ GE237.out)|exact HB.out)) hb);have n2_:=zm_ (hbox);have n3_:=zm_ ((by rw [hg];exact (below_size (by repeat (first|(with_reducible first|exact HB.out|apply za_|apply zn_|apply zd_|refine zs_ ?_ GE237.out)|exact HB.out))) : w.heap.size ≤ gb238));have n4_:=zm_ ((by rw [hg];exact (below_size (by repeat (first|(with_reducible first|exact HB.out|apply za_|apply zn_|apply zd_|refine zs_ ?_ GE237.out)|exact HB.out))) : w.heap.size ≤ gb238));have n5_:=zm_ ((by rw [hg];exact Nat.ne_of_lt (blk_lt (g:=gb237) (o:=.cells #[.int .i64 a0_0,.int .i64 a0_1,.string a0_2,.slice A0_3 l0_3.length c0_3] 70 (0,0)) (by (with_reducible repeat first|refine zl_ ?_ _|refine zr_ ?_|refine zk_ ?_ _);exact BK237.out)) : gb237 ≠ gb238));have n6_:=zm_ ((by rw [hg];exact Nat.ne_of_gt (blk_lt (g:=gb237) (o:=.cells #[.int .i64 a0_0,.int .i64 a0_1,.string a0_2,.slice A0_3 l0_3.length c0_3] 70 (0,0)) (by (with_reducible repeat first|refine zl_ ?_ _|refine zr_ ?_|refine zk_ ?_ _);exact BK237.out)) : gb238 ≠ gb237));clear BK237;clear HB;have BK237:=n0_;have HB:=n1_;have BK238:=n2_;have GW238:=n3_;have GE238:=n4_;have NB237_238:=n5_;have NB238_237:=n6_;clear n0_ n1_ n2_ n3_ n4_ n5_ n6_;clear hb hbox hg;have hnb10:=NB237_238.out;have hnc10:=NB238_237.out;have hcz11_0 : w9.cell? ⟨gb237,0,none⟩ = some (.int .i64 a0_0):=(zc_ BK237.out 0).trans rfl;have hcz11_1 : w9.cell? ⟨gb237,1,none⟩ = some (.int .i64 a0_1):=(zc_ BK237.out 1).trans rfl;have hcz11_2 : w9.cell? ⟨gb237,2,none⟩ = some (.string a0_2):=(zc_ BK237.out 2).trans rfl;have hcz11_3 : w9.cell? ⟨gb237,3,none⟩ = some (.slice A0_3 l0_3.length c0_3):=(zc_ BK237.out 3).trans rfl;have hfz11_0:=zf_ BK237.out 0;have hfz11_1:=zf_ BK237.out 1;have hfz11_2:=zf_ BK237.out 2;have hfz11_3:=zf_ BK237.out 3;have hcz12_0 : w9.cell? ⟨gb238,0,none⟩ = some (.int .i64 a1_0):=(zc_ BK238.out 0).trans rfl;have hcz12_1 : w9.cell? ⟨gb238,1,none⟩ = some (.int .i64 a1_1):=(zc_ BK238.out 1).trans rfl;have hcz12_2 : w9.cell? ⟨gb238,2,none⟩ = some (.string a1_2):=(zc_ BK238.out 2).trans rfl;have hcz12_3 : w9.cell? ⟨gb238,3,none⟩ = some (.slice A1_3 l1_3.length c1_3):=(zc_ BK238.out 3).trans rfl;have hfz12_0:=zf_ BK238.out 0;have hfz12_1:=zf_ BK238.out 1;have hfz12_2:=zf_ BK238.out 2;have hfz12_3:=zf_ BK238.out 3)|((with_reducible refine gate_callee (f:=79) rfl ?_);refine goesL_ (some 24) rfl rfl Tryd.func79 (by kernel_rfl) rfl #[.slice A0_3 l0_3.length c0_3,.slice A1_3 l1_3.length c1_3] rfl (by (try simp only [List.map_toArray,List.map_cons,List.map_nil]);first|done|rfl|(simp only [List.length_drop,List.length_take];rfl)) ?_;(with_reducible refine (laws_eqIntS.calls k _ _ l0_3 _ _ l1_3 true _ ?side1 ?side2 ?side3 ?side4 A6.out).mono ?_);(case side1 => repeat (first|exact (Kd.C_below HR0_3.out HB.out)|(with_reducible refine Kd.C_alloc ?_ _)|(with_reducible refine Kd.C_drewN ?_ _)|(with_reducible refine Kd.C_drew ?_)));(case side2 => exact HC0_3.out);(case side3 => repeat (first|exact (Kd.C_below HR1_3.out HB.out)|(with_reducible refine Kd.C_alloc ?_ _)|(with_reducible refine Kd.C_drewN ?_ _)|(with_reducible refine Kd.C_drew ?_)));(case side4 => exact HC1_3.out);rintro e w' ⟨rfl,⟨nd,rfl⟩⟩;refine ⟨_,rfl,?_⟩))
     go_ret
     exact ⟨by first|rfl|(simp [errW_none,errW_some] <;> rfl)|(simp [*,errW_none,errW_some] <;> rfl),by repeat (first|(with_reducible first|exact HB.out|apply za_|apply zn_|apply zd_|refine zs_ ?_ GE237.out|refine zs_ ?_ GE238.out)|exact HB.out)⟩
    ·replace c7:=Bool.eq_false_iff.mpr c7
     subst c7
     have H1 : (some false) = some r:=by rw [if_neg (show ¬ (false = true) by decide)] at H;exact H
     clear H
     have H:=H1
     clear H1
     obtain rfl:=Option.some.inj H
     go_enter Tryd.func63,Tryd.ntmps63
     go_wp2_with (first|((with_reducible refine gate_dst (N:=2) rfl ?_);refine box_event ?hg (N:=2) ?hd (cs:=#[.int .i64 a0_0,.int .i64 a0_1,.string a0_2,.slice A0_3 l0_3.length c0_3]) (t:=70) ?hr ?_;(case hd => rfl);(case hg => rfl);(case hr => first|(go_simp;done)|(go_simp;rfl));intro gb237 hg w13 hbox hb;have n0_:=zm_ (below_step (by repeat (first|(with_reducible first|exact HB.out|apply za_|apply zn_|apply zd_)|exact HB.out)) hb);have n1_:=zm_ (hbox);have n2_:=zm_ ((by rw [hg];exact (below_size (by repeat (first|(with_reducible first|exact HB.out|apply za_|apply zn_|apply zd_)|exact HB.out))) : w.heap.size ≤ gb237));have n3_:=zm_ ((by rw [hg];exact (below_size (by repeat (first|(with_reducible first|exact HB.out|apply za_|apply zn_|apply zd_)|exact HB.out))) : w.heap.size ≤ gb237));clear HB;have HB:=n0_;have BK237:=n1_;have GW237:=n2_;have GE237:=n3_;clear n0_ n1_ n2_ n3_;clear hb hbox hg)|((with_reducible refine gate_dst (N:=3) rfl ?_);refine box_event ?hg (N:=3) ?hd (cs:=#[.int .i64 a1_0,.int .i64 a1_1,.string a1_2,.slice A1_3 l1_3.length c1_3]) (t:=70) ?hr ?_;(case hd => rfl);(case hg => rfl);(case hr => first|(go_simp;done)|(go_simp;rfl));intro gb238 hg w14 hbox hb;have n0_:=zm_ (blk_below (g:=gb237) (o:=.cells #[.int .i64 a0_0,.int .i64 a0_1,.string a0_2,.slice A0_3 l0_3.length c0_3] 70 (0,0)) (by (with_reducible repeat first|refine zl_ ?_ _|refine zr_ ?_|refine zk_ ?_ _);exact BK237.out) hb);have n1_:=zm_ (below_step (by repeat (first|(with_reducible first|exact HB.out|apply za_|apply zn_|apply zd_|refine zs_ ?_ GE237.out)|exact HB.out)) hb);have n2_:=zm_ (hbox);have n3_:=zm_ ((by rw [hg];exact (below_size (by repeat (first|(with_reducible first|exact HB.out|apply za_|apply zn_|apply zd_|refine zs_ ?_ GE237.out)|exact HB.out))) : w.heap.size ≤ gb238));have n4_:=zm_ ((by rw [hg];exact (below_size (by repeat (first|(with_reducible first|exact HB.out|apply za_|apply zn_|apply zd_|refine zs_ ?_ GE237.out)|exact HB.out))) : w.heap.size ≤ gb238));have n5_:=zm_ ((by rw [hg];exact Nat.ne_of_lt (blk_lt (g:=gb237) (o:=.cells #[.int .i64 a0_0,.int .i64 a0_1,.string a0_2,.slice A0_3 l0_3.length c0_3] 70 (0,0)) (by (with_reducible repeat first|refine zl_ ?_ _|refine zr_ ?_|refine zk_ ?_ _);exact BK237.out)) : gb237 ≠ gb238));have n6_:=zm_ ((by rw [hg];exact Nat.ne_of_gt (blk_lt (g:=gb237) (o:=.cells #[.int .i64 a0_0,.int .i64 a0_1,.string a0_2,.slice A0_3 l0_3.length c0_3] 70 (0,0)) (by (with_reducible repeat first|refine zl_ ?_ _|refine zr_ ?_|refine zk_ ?_ _);exact BK237.out)) : gb238 ≠ gb237));clear BK237;clear HB;have BK237:=n0_;have HB:=n1_;have BK238:=n2_;have GW238:=n3_;have GE238:=n4_;have NB237_238:=n5_;have NB238_237:=n6_;clear n0_ n1_ n2_ n3_ n4_ n5_ n6_;clear hb hbox hg;have hnb15:=NB237_238.out;have hnc15:=NB238_237.out;have hcz16_0 : w14.cell? ⟨gb237,0,none⟩ = some (.int .i64 a0_0):=(zc_ BK237.out 0).trans rfl;have hcz16_1 : w14.cell? ⟨gb237,1,none⟩ = some (.int .i64 a0_1):=(zc_ BK237.out 1).trans rfl;have hcz16_2 : w14.cell? ⟨gb237,2,none⟩ = some (.string a0_2):=(zc_ BK237.out 2).trans rfl;have hcz16_3 : w14.cell? ⟨gb237,3,none⟩ = some (.slice A0_3 l0_3.length c0_3):=(zc_ BK237.out 3).trans rfl;have hfz16_0:=zf_ BK237.out 0;have hfz16_1:=zf_ BK237.out 1;have hfz16_2:=zf_ BK237.out 2;have hfz16_3:=zf_ BK237.out 3;have hcz17_0 : w14.cell? ⟨gb238,0,none⟩ = some (.int .i64 a1_0):=(zc_ BK238.out 0).trans rfl;have hcz17_1 : w14.cell? ⟨gb238,1,none⟩ = some (.int .i64 a1_1):=(zc_ BK238.out 1).trans rfl;have hcz17_2 : w14.cell? ⟨gb238,2,none⟩ = some (.string a1_2):=(zc_ BK238.out 2).trans rfl;have hcz17_3 : w14.cell? ⟨gb238,3,none⟩ = some (.slice A1_3 l1_3.length c1_3):=(zc_ BK238.out 3).trans rfl;have hfz17_0:=zf_ BK238.out 0;have hfz17_1:=zf_ BK238.out 1;have hfz17_2:=zf_ BK238.out 2;have hfz17_3:=zf_ BK238.out 3)|((with_reducible refine gate_callee (f:=79) rfl ?_);refine goesL_ (some 24) rfl rfl Tryd.func79 (by kernel_rfl) rfl #[.slice A0_3 l0_3.length c0_3,.slice A1_3 l1_3.length c1_3] rfl (by (try simp only [List.map_toArray,List.map_cons,List.map_nil]);first|done|rfl|(simp only [List.length_drop,List.length_take];rfl)) ?_;(with_reducible refine (laws_eqIntS.calls k _ _ l0_3 _ _ l1_3 false _ ?side1 ?side2 ?side3 ?side4 A6.out).mono ?_);(case side1 => repeat (first|exact (Kd.C_below HR0_3.out HB.out)|(with_reducible refine Kd.C_alloc ?_ _)|(with_reducible refine Kd.C_drewN ?_ _)|(with_reducible refine Kd.C_drew ?_)));(case side2 => exact HC0_3.out);(case side3 => repeat (first|exact (Kd.C_below HR1_3.out HB.out)|(with_reducible refine Kd.C_alloc ?_ _)|(with_reducible refine Kd.C_drewN ?_ _)|(with_reducible refine Kd.C_drew ?_)));(case side4 => exact HC1_3.out);rintro e w' ⟨rfl,⟨nd,rfl⟩⟩;refine ⟨_,rfl,?_⟩))
     go_ret
     exact ⟨by first|rfl|(simp [errW_none,errW_some] <;> rfl)|(simp [*,errW_none,errW_some] <;> rfl),by repeat (first|(with_reducible first|exact HB.out|apply za_|apply zn_|apply zd_|refine zs_ ?_ GE237.out|refine zs_ ?_ GE238.out)|exact HB.out)⟩
   ·rw [if_neg c5] at H
    have c5b0 : (a0_2.toList == a1_2.toList) = false:=beq_eq_false_iff_ne.mpr c5
    have c5b1 : (a0_2.toList != a1_2.toList) = true:=bne_iff_ne.mpr c5
    obtain rfl:=Option.some.inj H
    go_enter Tryd.func63,Tryd.ntmps63
    go_wp2_with (first|((with_reducible refine gate_dst (N:=2) rfl ?_);refine box_event ?hg (N:=2) ?hd (cs:=#[.int .i64 a0_0,.int .i64 a0_1,.string a0_2,.slice A0_3 l0_3.length c0_3]) (t:=70) ?hr ?_;(case hd => rfl);(case hg => rfl);(case hr => first|(go_simp;done)|(go_simp;rfl));intro gb237 hg w18 hbox hb;have n0_:=zm_ (below_step (by repeat (first|(with_reducible first|exact HB.out|apply za_|apply zn_|apply zd_)|exact HB.out)) hb);have n1_:=zm_ (hbox);have n2_:=zm_ ((by rw [hg];exact (below_size (by repeat (first|(with_reducible first|exact HB.out|apply za_|apply zn_|apply zd_)|exact HB.out))) : w.heap.size ≤ gb237));have n3_:=zm_ ((by rw [hg];exact (below_size (by repeat (first|(with_reducible first|exact HB.out|apply za_|apply zn_|apply zd_)|exact HB.out))) : w.heap.size ≤ gb237));clear HB;have HB:=n0_;have BK237:=n1_;have GW237:=n2_;have GE237:=n3_;clear n0_ n1_ n2_ n3_;clear hb hbox hg)|((with_reducible refine gate_dst (N:=3) rfl ?_);refine box_event ?hg (N:=3) ?hd (cs:=#[.int .i64 a1_0,.int .i64 a1_1,.string a1_2,.slice A1_3 l1_3.length c1_3]) (t:=70) ?hr ?_;(case hd => rfl);(case hg => rfl);(case hr => first|(go_simp;done)|(go_simp;rfl));intro gb238 hg w19 hbox hb;have n0_:=zm_ (blk_below (g:=gb237) (o:=.cells #[.int .i64 a0_0,.int .i64 a0_1,.string a0_2,.slice A0_3 l0_3.length c0_3] 70 (0,0)) (by (with_reducible repeat first|refine zl_ ?_ _|refine zr_ ?_|refine zk_ ?_ _);exact BK237.out) hb);have n1_:=zm_ (below_step (by repeat (first|(with_reducible first|exact HB.out|apply za_|apply zn_|apply zd_|refine zs_ ?_ GE237.out)|exact HB.out)) hb);have n2_:=zm_ (hbox);have n3_:=zm_ ((by rw [hg];exact (below_size (by repeat (first|(with_reducible first|exact HB.out|apply za_|apply zn_|apply zd_|refine zs_ ?_ GE237.out)|exact HB.out))) : w.heap.size ≤ gb238));have n4_:=zm_ ((by rw [hg];exact (below_size (by repeat (first|(with_reducible first|exact HB.out|apply za_|apply zn_|apply zd_|refine zs_ ?_ GE237.out)|exact HB.out))) : w.heap.size ≤ gb238));have n5_:=zm_ ((by rw [hg];exact Nat.ne_of_lt (blk_lt (g:=gb237) (o:=.cells #[.int .i64 a0_0,.int .i64 a0_1,.string a0_2,.slice A0_3 l0_3.length c0_3] 70 (0,0)) (by (with_reducible repeat first|refine zl_ ?_ _|refine zr_ ?_|refine zk_ ?_ _);exact BK237.out)) : gb237 ≠ gb238));have n6_:=zm_ ((by rw [hg];exact Nat.ne_of_gt (blk_lt (g:=gb237) (o:=.cells #[.int .i64 a0_0,.int .i64 a0_1,.string a0_2,.slice A0_3 l0_3.length c0_3] 70 (0,0)) (by (with_reducible repeat first|refine zl_ ?_ _|refine zr_ ?_|refine zk_ ?_ _);exact BK237.out)) : gb238 ≠ gb237));clear BK237;clear HB;have BK237:=n0_;have HB:=n1_;have BK238:=n2_;have GW238:=n3_;have GE238:=n4_;have NB237_238:=n5_;have NB238_237:=n6_;clear n0_ n1_ n2_ n3_ n4_ n5_ n6_;clear hb hbox hg;have hnb20:=NB237_238.out;have hnc20:=NB238_237.out;have hcz21_0 : w19.cell? ⟨gb237,0,none⟩ = some (.int .i64 a0_0):=(zc_ BK237.out 0).trans rfl;have hcz21_1 : w19.cell? ⟨gb237,1,none⟩ = some (.int .i64 a0_1):=(zc_ BK237.out 1).trans rfl;have hcz21_2 : w19.cell? ⟨gb237,2,none⟩ = some (.string a0_2):=(zc_ BK237.out 2).trans rfl;have hcz21_3 : w19.cell? ⟨gb237,3,none⟩ = some (.slice A0_3 l0_3.length c0_3):=(zc_ BK237.out 3).trans rfl;have hfz21_0:=zf_ BK237.out 0;have hfz21_1:=zf_ BK237.out 1;have hfz21_2:=zf_ BK237.out 2;have hfz21_3:=zf_ BK237.out 3;have hcz22_0 : w19.cell? ⟨gb238,0,none⟩ = some (.int .i64 a1_0):=(zc_ BK238.out 0).trans rfl;have hcz22_1 : w19.cell? ⟨gb238,1,none⟩ = some (.int .i64 a1_1):=(zc_ BK238.out 1).trans rfl;have hcz22_2 : w19.cell? ⟨gb238,2,none⟩ = some (.string a1_2):=(zc_ BK238.out 2).trans rfl;have hcz22_3 : w19.cell? ⟨gb238,3,none⟩ = some (.slice A1_3 l1_3.length c1_3):=(zc_ BK238.out 3).trans rfl;have hfz22_0:=zf_ BK238.out 0;have hfz22_1:=zf_ BK238.out 1;have hfz22_2:=zf_ BK238.out 2;have hfz22_3:=zf_ BK238.out 3))
    go_ret
    exact ⟨by first|rfl|(simp [errW_none,errW_some] <;> rfl)|(simp [*,errW_none,errW_some] <;> rfl),by repeat (first|(with_reducible first|exact HB.out|apply za_|apply zn_|apply zd_|refine zs_ ?_ GE237.out|refine zs_ ?_ GE238.out)|exact HB.out)⟩
  ·rw [if_neg c4] at H
   have c4b0 : (a0_1 == a1_1) = false:=beq_eq_false_iff_ne.mpr c4
   have c4b1 : (a0_1 != a1_1) = true:=bne_iff_ne.mpr c4
   obtain rfl:=Option.some.inj H
   go_enter Tryd.func63,Tryd.ntmps63
   go_wp2_with (first|((with_reducible refine gate_dst (N:=2) rfl ?_);refine box_event ?hg (N:=2) ?hd (cs:=#[.int .i64 a0_0,.int .i64 a0_1,.string a0_2,.slice A0_3 l0_3.length c0_3]) (t:=70) ?hr ?_;(case hd => rfl);(case hg => rfl);(case hr => first|(go_simp;done)|(go_simp;rfl));intro gb237 hg w23 hbox hb;have n0_:=zm_ (below_step (by repeat (first|(with_reducible first|exact HB.out|apply za_|apply zn_|apply zd_)|exact HB.out)) hb);have n1_:=zm_ (hbox);have n2_:=zm_ ((by rw [hg];exact (below_size (by repeat (first|(with_reducible first|exact HB.out|apply za_|apply zn_|apply zd_)|exact HB.out))) : w.heap.size ≤ gb237));have n3_:=zm_ ((by rw [hg];exact (below_size (by repeat (first|(with_reducible first|exact HB.out|apply za_|apply zn_|apply zd_)|exact HB.out))) : w.heap.size ≤ gb237));clear HB;have HB:=n0_;have BK237:=n1_;have GW237:=n2_;have GE237:=n3_;clear n0_ n1_ n2_ n3_;clear hb hbox hg)|((with_reducible refine gate_dst (N:=3) rfl ?_);refine box_event ?hg (N:=3) ?hd (cs:=#[.int .i64 a1_0,.int .i64 a1_1,.string a1_2,.slice A1_3 l1_3.length c1_3]) (t:=70) ?hr ?_;(case hd => rfl);(case hg => rfl);(case hr => first|(go_simp;done)|(go_simp;rfl));intro gb238 hg w24 hbox hb;have n0_:=zm_ (blk_below (g:=gb237) (o:=.cells #[.int .i64 a0_0,.int .i64 a0_1,.string a0_2,.slice A0_3 l0_3.length c0_3] 70 (0,0)) (by (with_reducible repeat first|refine zl_ ?_ _|refine zr_ ?_|refine zk_ ?_ _);exact BK237.out) hb);have n1_:=zm_ (below_step (by repeat (first|(with_reducible first|exact HB.out|apply za_|apply zn_|apply zd_|refine zs_ ?_ GE237.out)|exact HB.out)) hb);have n2_:=zm_ (hbox);have n3_:=zm_ ((by rw [hg];exact (below_size (by repeat (first|(with_reducible first|exact HB.out|apply za_|apply zn_|apply zd_|refine zs_ ?_ GE237.out)|exact HB.out))) : w.heap.size ≤ gb238));have n4_:=zm_ ((by rw [hg];exact (below_size (by repeat (first|(with_reducible first|exact HB.out|apply za_|apply zn_|apply zd_|refine zs_ ?_ GE237.out)|exact HB.out))) : w.heap.size ≤ gb238));have n5_:=zm_ ((by rw [hg];exact Nat.ne_of_lt (blk_lt (g:=gb237) (o:=.cells #[.int .i64 a0_0,.int .i64 a0_1,.string a0_2,.slice A0_3 l0_3.length c0_3] 70 (0,0)) (by (with_reducible repeat first|refine zl_ ?_ _|refine zr_ ?_|refine zk_ ?_ _);exact BK237.out)) : gb237 ≠ gb238));have n6_:=zm_ ((by rw [hg];exact Nat.ne_of_gt (blk_lt (g:=gb237) (o:=.cells #[.int .i64 a0_0,.int .i64 a0_1,.string a0_2,.slice A0_3 l0_3.length c0_3] 70 (0,0)) (by (with_reducible repeat first|refine zl_ ?_ _|refine zr_ ?_|refine zk_ ?_ _);exact BK237.out)) : gb238 ≠ gb237));clear BK237;clear HB;have BK237:=n0_;have HB:=n1_;have BK238:=n2_;have GW238:=n3_;have GE238:=n4_;have NB237_238:=n5_;have NB238_237:=n6_;clear n0_ n1_ n2_ n3_ n4_ n5_ n6_;clear hb hbox hg;have hnb25:=NB237_238.out;have hnc25:=NB238_237.out;have hcz26_0 : w24.cell? ⟨gb237,0,none⟩ = some (.int .i64 a0_0):=(zc_ BK237.out 0).trans rfl;have hcz26_1 : w24.cell? ⟨gb237,1,none⟩ = some (.int .i64 a0_1):=(zc_ BK237.out 1).trans rfl;have hcz26_2 : w24.cell? ⟨gb237,2,none⟩ = some (.string a0_2):=(zc_ BK237.out 2).trans rfl;have hcz26_3 : w24.cell? ⟨gb237,3,none⟩ = some (.slice A0_3 l0_3.length c0_3):=(zc_ BK237.out 3).trans rfl;have hfz26_0:=zf_ BK237.out 0;have hfz26_1:=zf_ BK237.out 1;have hfz26_2:=zf_ BK237.out 2;have hfz26_3:=zf_ BK237.out 3;have hcz27_0 : w24.cell? ⟨gb238,0,none⟩ = some (.int .i64 a1_0):=(zc_ BK238.out 0).trans rfl;have hcz27_1 : w24.cell? ⟨gb238,1,none⟩ = some (.int .i64 a1_1):=(zc_ BK238.out 1).trans rfl;have hcz27_2 : w24.cell? ⟨gb238,2,none⟩ = some (.string a1_2):=(zc_ BK238.out 2).trans rfl;have hcz27_3 : w24.cell? ⟨gb238,3,none⟩ = some (.slice A1_3 l1_3.length c1_3):=(zc_ BK238.out 3).trans rfl;have hfz27_0:=zf_ BK238.out 0;have hfz27_1:=zf_ BK238.out 1;have hfz27_2:=zf_ BK238.out 2;have hfz27_3:=zf_ BK238.out 3))
   go_ret
   exact ⟨by first|rfl|(simp [errW_none,errW_some] <;> rfl)|(simp [*,errW_none,errW_some] <;> rfl),by repeat (first|(with_reducible first|exact HB.out|apply za_|apply zn_|apply zd_|refine zs_ ?_ GE237.out|refine zs_ ?_ GE238.out)|exact HB.out)⟩
 ·rw [if_neg c3] at H
  have c3b0 : (a0_0 == a1_0) = false:=beq_eq_false_iff_ne.mpr c3
  have c3b1 : (a0_0 != a1_0) = true:=bne_iff_ne.mpr c3
  obtain rfl:=Option.some.inj H
  go_enter Tryd.func63,Tryd.ntmps63
  go_wp2_with (first|((with_reducible refine gate_dst (N:=2) rfl ?_);refine box_event ?hg (N:=2) ?hd (cs:=#[.int .i64 a0_0,.int .i64 a0_1,.string a0_2,.slice A0_3 l0_3.length c0_3]) (t:=70) ?hr ?_;(case hd => rfl);(case hg => rfl);(case hr => first|(go_simp;done)|(go_simp;rfl));intro gb237 hg w28 hbox hb;have n0_:=zm_ (below_step (by repeat (first|(with_reducible first|exact HB.out|apply za_|apply zn_|apply zd_)|exact HB.out)) hb);have n1_:=zm_ (hbox);have n2_:=zm_ ((by rw [hg];exact (below_size (by repeat (first|(with_reducible first|exact HB.out|apply za_|apply zn_|apply zd_)|exact HB.out))) : w.heap.size ≤ gb237));have n3_:=zm_ ((by rw [hg];exact (below_size (by repeat (first|(with_reducible first|exact HB.out|apply za_|apply zn_|apply zd_)|exact HB.out))) : w.heap.size ≤ gb237));clear HB;have HB:=n0_;have BK237:=n1_;have GW237:=n2_;have GE237:=n3_;clear n0_ n1_ n2_ n3_;clear hb hbox hg)|((with_reducible refine gate_dst (N:=3) rfl ?_);refine box_event ?hg (N:=3) ?hd (cs:=#[.int .i64 a1_0,.int .i64 a1_1,.string a1_2,.slice A1_3 l1_3.length c1_3]) (t:=70) ?hr ?_;(case hd => rfl);(case hg => rfl);(case hr => first|(go_simp;done)|(go_simp;rfl));intro gb238 hg w29 hbox hb;have n0_:=zm_ (blk_below (g:=gb237) (o:=.cells #[.int .i64 a0_0,.int .i64 a0_1,.string a0_2,.slice A0_3 l0_3.length c0_3] 70 (0,0)) (by (with_reducible repeat first|refine zl_ ?_ _|refine zr_ ?_|refine zk_ ?_ _);exact BK237.out) hb);have n1_:=zm_ (below_step (by repeat (first|(with_reducible first|exact HB.out|apply za_|apply zn_|apply zd_|refine zs_ ?_ GE237.out)|exact HB.out)) hb);have n2_:=zm_ (hbox);have n3_:=zm_ ((by rw [hg];exact (below_size (by repeat (first|(with_reducible first|exact HB.out|apply za_|apply zn_|apply zd_|refine zs_ ?_ GE237.out)|exact HB.out))) : w.heap.size ≤ gb238));have n4_:=zm_ ((by rw [hg];exact (below_size (by repeat (first|(with_reducible first|exact HB.out|apply za_|apply zn_|apply zd_|refine zs_ ?_ GE237.out)|exact HB.out))) : w.heap.size ≤ gb238));have n5_:=zm_ ((by rw [hg];exact Nat.ne_of_lt (blk_lt (g:=gb237) (o:=.cells #[.int .i64 a0_0,.int .i64 a0_1,.string a0_2,.slice A0_3 l0_3.length c0_3] 70 (0,0)) (by (with_reducible repeat first|refine zl_ ?_ _|refine zr_ ?_|refine zk_ ?_ _);exact BK237.out)) : gb237 ≠ gb238));have n6_:=zm_ ((by rw [hg];exact Nat.ne_of_gt (blk_lt (g:=gb237) (o:=.cells #[.int .i64 a0_0,.int .i64 a0_1,.string a0_2,.slice A0_3 l0_3.length c0_3] 70 (0,0)) (by (with_reducible repeat first|refine zl_ ?_ _|refine zr_ ?_|refine zk_ ?_ _);exact BK237.out)) : gb238 ≠ gb237));clear BK237;clear HB;have BK237:=n0_;have HB:=n1_;have BK238:=n2_;have GW238:=n3_;have GE238:=n4_;have NB237_238:=n5_;have NB238_237:=n6_;clear n0_ n1_ n2_ n3_ n4_ n5_ n6_;clear hb hbox hg;have hnb30:=NB237_238.out;have hnc30:=NB238_237.out;have hcz31_0 : w29.cell? ⟨gb237,0,none⟩ = some (.int .i64 a0_0):=(zc_ BK237.out 0).trans rfl;have hcz31_1 : w29.cell? ⟨gb237,1,none⟩ = some (.int .i64 a0_1):=(zc_ BK237.out 1).trans rfl;have hcz31_2 : w29.cell? ⟨gb237,2,none⟩ = some (.string a0_2):=(zc_ BK237.out 2).trans rfl;have hcz31_3 : w29.cell? ⟨gb237,3,none⟩ = some (.slice A0_3 l0_3.length c0_3):=(zc_ BK237.out 3).trans rfl;have hfz31_0:=zf_ BK237.out 0;have hfz31_1:=zf_ BK237.out 1;have hfz31_2:=zf_ BK237.out 2;have hfz31_3:=zf_ BK237.out 3;have hcz32_0 : w29.cell? ⟨gb238,0,none⟩ = some (.int .i64 a1_0):=(zc_ BK238.out 0).trans rfl;have hcz32_1 : w29.cell? ⟨gb238,1,none⟩ = some (.int .i64 a1_1):=(zc_ BK238.out 1).trans rfl;have hcz32_2 : w29.cell? ⟨gb238,2,none⟩ = some (.string a1_2):=(zc_ BK238.out 2).trans rfl;have hcz32_3 : w29.cell? ⟨gb238,3,none⟩ = some (.slice A1_3 l1_3.length c1_3):=(zc_ BK238.out 3).trans rfl;have hfz32_0:=zf_ BK238.out 0;have hfz32_1:=zf_ BK238.out 1;have hfz32_2:=zf_ BK238.out 2;have hfz32_3:=zf_ BK238.out 3))
  go_ret
  exact ⟨by first|rfl|(simp [errW_none,errW_some] <;> rfl)|(simp [*,errW_none,errW_some] <;> rfl),by repeat (first|(with_reducible first|exact HB.out|apply za_|apply zn_|apply zd_|refine zs_ ?_ GE237.out|refine zs_ ?_ GE238.out)|exact HB.out)⟩

end Go.Proofs.YtnmhggdaccbbfaaDoor.MFnExactShowExpr
