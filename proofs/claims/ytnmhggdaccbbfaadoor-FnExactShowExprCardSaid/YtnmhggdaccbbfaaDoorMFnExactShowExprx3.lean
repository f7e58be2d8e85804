import Derived.Test.YtnmhggdaccbbfaaDoorMFnExactShowExprx0
namespace Go.Proofs.YtnmhggdaccbbfaaDoor.MFnExactShowExpr
open Go.RowKit Go.Proofs.YtnmhggdaccbbfaaDoorW.PrintWords Go.Proofs.YtnmhggdaccbbfaaDoorW.PrintLast Go.Proofs.YtnmhggdaccbbfaaDoorW.PrintMore
attribute [local go_sem] max2_int min2_int max_two min_two max_three min_three max_four min_four
set_option linter.unusedVariables false
set_option linter.unusedSimpArgs false

mutual
def spec_l04Size.l0 : Nat → List Int → Int → List (S70) → Option (Int)
 |0,_,_,_ => none
 |k + 1,x3,x4,x120000 => if x4 < (x120000.length : Int) then (spec_l04Size.l1 k x3 x4 1 0 x120000) else (if 0 ≤ (wrap64 ((x3.length : Int) - 1)) then (if (wrap64 ((x3.length : Int) - 1)) < (x3.length : Int) then (some (rd x3 (wrap64 ((x3.length : Int) - 1)))) else (none)) else (none))
def spec_l04Size.l1 : Nat → List Int → Int → Int → Int → List (S70) → Option (Int)
 |0,_,_,_,_,_ => none
 |k + 1,x3,x4,x5,x6,x120000 => if 0 ≤ x4 then (if x4 < (x120000.length : Int) then (if x6 < (((rd_T70 x120000 x4).f3).length : Int) then (if 0 ≤ x6 then (if 0 ≤ (rd ((rd_T70 x120000 x4).f3) x6) then (if (rd ((rd_T70 x120000 x4).f3) x6) < (x3.length : Int) then (spec_l04Size.l1 k x3 x4 (wrap64 (x5 + (rd x3 (rd ((rd_T70 x120000 x4).f3) x6)))) (wrap64 (x6 + 1)) x120000) else (none)) else (none)) else (none)) else (if x5 > 201 then (if x3.length < 17592186044416 then (spec_l04Size.l0 k (x3 ++ [201]) (wrap64 (x4 + 1)) x120000) else (none)) else (if x3.length < 17592186044416 then (spec_l04Size.l0 k (x3 ++ [x5]) (wrap64 (x4 + 1)) x120000) else (none)))) else (none)) else (none)
end
def spec_l04Size.f (k : Nat) (l0_0 : List (S70)) : Option (Int):=spec_l04Size.l0 k (([] : List Int)) 0 l0_0
theorem spec_l04Size.mono_l : ∀ k,(∀ y0 y1 y2,LeO (spec_l04Size.l0 k y0 y1 y2) (spec_l04Size.l0 (k + 1) y0 y1 y2)) ∧ (∀ y0 y1 y2 y3 y4,LeO (spec_l04Size.l1 k y0 y1 y2 y3 y4) (spec_l04Size.l1 (k + 1) y0 y1 y2 y3 y4))
 |0 => ⟨fun _ _ _ r h => by simp [spec_l04Size.l0] at h,fun _ _ _ _ _ r h => by simp [spec_l04Size.l1] at h⟩
 |k + 1 => by
  obtain ⟨ih0,ih1⟩:=spec_l04Size.mono_l k
  refine ⟨?_,?_⟩
  ·intro y0 y1 y2
   unfold spec_l04Size.l0
   repeat' first
   |(with_reducible exact ih0 _ _ _)
   |(with_reducible exact ih1 _ _ _ _ _)
   |(with_reducible exact LeO.refl _)
   |(with_reducible exact LeO.none _)
   |(with_reducible refine LeO.ite ?_ ?_)
   |(with_reducible refine LeO.bind ?_ (fun _ => ?_))
  ·intro y0 y1 y2 y3 y4
   unfold spec_l04Size.l1
   repeat' first
   |(with_reducible exact ih0 _ _ _)
   |(with_reducible exact ih1 _ _ _ _ _)
   |(with_reducible exact LeO.refl _)
   |(with_reducible exact LeO.none _)
   |(with_reducible refine LeO.ite ?_ ?_)
   |(with_reducible refine LeO.bind ?_ (fun _ => ?_))
theorem spec_l04Size.mono : ∀ a0 k,LeO (spec_l04Size.f k a0) (spec_l04Size.f (k + 1) a0):=by
 intro a0 k
 obtain ⟨ih0,ih1⟩:=spec_l04Size.mono_l k
 unfold spec_l04Size.f
 repeat' first
   |(with_reducible exact ih0 _ _ _)
   |(with_reducible exact ih1 _ _ _ _ _)
   |(with_reducible exact LeO.refl _)
   |(with_reducible exact LeO.none _)
   |(with_reducible refine LeO.ite ?_ ?_)
   |(with_reducible refine LeO.bind ?_ (fun _ => ?_))
set_option maxHeartbeats 8000000 in
set_option maxRecDepth 100000 in
theorem spec_l04Size.calls (k : Nat) (A0_0 : Option Addr) (c0_0 : Nat) (l0_0 : List (S70)) (r : Int) (w : World) (hr0_0 : Kd.C k70 w A0_0 l0_0.length l0_0) (hc0_0 : l0_0.length ≤ c0_0) (h : spec_l04Size.f k l0_0 = some r) :
  Calls Tryd.prog 42 #[.agg #[.slice A0_0 l0_0.length c0_0]] w fun e w' => e = .returned (.int .i64 r) ∧ Below w.heap.size w w':=by
 have hu44:=Tryd.underlying44
 have HR0_0:=zm_ hr0_0
 have HC0_0:=zm_ hc0_0
 clear hr0_0 hc0_0
 have HB:=zm_ (Below.refl w.heap.size w)
 have H : (spec_l04Size.l0 k (([] : List Int)) 0 l0_0) = some r:=h
 clear h
 obtain ⟨y120,hy120⟩ : ∃ y_ : List Int,y_ = (([] : List Int)):=⟨_,rfl⟩
 replace H : (spec_l04Size.l0 k y120 0 l0_0) = some r:=by first|(rw [hy120];with_reducible exact H)|(have H2_:=(Option.bind_some _ _).symm.trans H;rw [hy120];with_reducible exact H2_)|(have H2_:=(Option.bind_some _ _).symm.trans H;with_reducible exact H2_)|with_reducible exact H|(rw [hy120];exact H)|exact H
 have Ny120:=zm_ hy120
 clear hy120
 have H':=zm_ H
 clear H
 go_enter Tryd.func42,Tryd.ntmps42
 go_wp2_with (first|((with_reducible refine gate_dst (N:=1) rfl ?_);refine box_event ?hg (N:=1) ?hd (cs:=#[.slice A0_0 l0_0.length c0_0]) (t:=44) ?hr ?_;(case hd => rfl);(case hg => rfl);(case hr => first|(go_simp;done)|(go_simp;rfl));intro gb119 hg w2 hbox hb;have n0_:=zm_ (below_step (by repeat (first|(with_reducible first|exact HB.out|apply za_|apply zn_|apply zd_)|exact HB.out)) hb);have n1_:=zm_ (hbox);have n2_:=zm_ ((by rw [hg];exact (below_size (by repeat (first|(with_reducible first|exact HB.out|apply za_|apply zn_|apply zd_)|exact HB.out))) : w.heap.size ≤ gb119));have n3_:=zm_ ((by rw [hg];exact (below_size (by repeat (first|(with_reducible first|exact HB.out|apply za_|apply zn_|apply zd_)|exact HB.out))) : w.heap.size ≤ gb119));clear HB;have HB:=n0_;have BK119:=n1_;have GW119:=n2_;have GE119:=n3_;clear n0_ n1_ n2_ n3_;clear hb hbox hg)|((with_reducible refine gate_dst (N:=7) rfl ?_);refine Kd.R_lit (Kd.int .i64) _ 3 ?hg (N:=7) ?hd (xs:=([] : List Int)) (inner:=[]) (ok:=fun _ => True) (okp:=fun _ => True) ?hr ?hp (fun _ hk => hk) trivial (Below.refl _ _) (Nat.le_refl _) (by simp) ?_;(case hd => rfl);(case hg => rfl);(case hr => first|(go_simp;done)|(go_simp;rfl));(case hp => exact (Reps.none _ _));intro v121 w3 ho4 hb hg_ hnew_;clear hg_ hnew_;(first|rw [← Ny120.out] at ho4|(simp only [Int.reduceToNat] at ho4;rw [← Ny120.out] at ho4));have n0_:=zm_ (Kd.R_lower ho4 (below_size (by repeat (first|(with_reducible first|exact HB.out|apply za_|apply zn_|apply zd_|refine zs_ ?_ GE119.out)|exact HB.out))));have n1_:=zm_ (blk_below (g:=gb119) (o:=.cells #[.slice A0_0 l0_0.length c0_0] 44 (0,0)) (by (with_reducible repeat first|refine zl_ ?_ _|refine zr_ ?_|refine zk_ ?_ _);exact BK119.out) hb);have n2_:=zm_ (below_step (by repeat (first|(with_reducible first|exact HB.out|apply za_|apply zn_|apply zd_|refine zs_ ?_ GE119.out)|exact HB.out)) hb);clear BK119;clear HB;have HO122:=n0_;have BK119:=n1_;have HB:=n2_;clear n0_ n1_ n2_;clear hb ho4))
 go_loopg [3,4] k (fun kq v3 v4 w' => ∃ (x3_1 : List Int) (x4_1 : Int),v4 = .int .i64 x4_1 ∧ Aside0 (spec_l04Size.l0 kq x3_1 x4_1 l0_0 = some r) ∧ Aside0 (kq ≤ k) ∧ Aside0 (Kd.R (Kd.int .i64) 3 w' w.heap.size (fun _ => True) v3 x3_1) ∧ Aside0 (w'.heap[gb119]? = some (.cells #[(.slice A0_0 l0_0.length c0_0)] 44 (0,0))) ∧ Aside0 (Below w.heap.size w w'))
 case atStart => exact ⟨(y120),(0),(by first|rfl|(exact congrArg Value.bool (isEmpty_ne _))|(exact congrArg Value.bool (isEmpty_ne' _))|(exact congrArg Value.bool (isEmpty_eq _))|(simp;done)|(simp [*];done)),H',⟨Nat.le_refl _⟩,⟨by (with_reducible repeat (first|apply Kd.R_alloc|apply Kd.R_drewN|apply Kd.R_drew));exact HO122.out⟩,⟨by (with_reducible repeat first|refine zl_ ?_ _|refine zr_ ?_|refine zk_ ?_ _);exact BK119.out⟩,⟨by repeat (first|(with_reducible first|exact HB.out|apply za_|apply zn_|apply zd_|refine zs_ ?_ GE119.out)|exact HB.out)⟩⟩
 case round =>
  clear H'
  try clear p2
  try clear c4
  obtain ⟨x3_1,x4_1,rfl,HA,HK1,HO_3,BK119,HB⟩:=hrel
  cases gk with
  |zero => exact absurd HA.out (by simp [spec_l04Size.l0])
  |succ k1 =>
   have H:=HA.out
   clear HA
   simp only [spec_l04Size.l0] at H
   by_cases c5 : x4_1 < (l0_0.length : Int)
   ·rw [if_pos c5] at H
    have c5b0 : decide (x4_1 < (l0_0.length : Int)) = true:=decide_eq_true c5
    clear c5
    have H':=zm_ H
    clear H
    have hcz6_0 : wr.cell? ⟨gb119,0,none⟩ = some (.slice A0_0 l0_0.length c0_0):=(zc_ BK119.out 0).trans rfl
    have hfz6_0:=zf_ BK119.out 0
    go_wp2
    go_loopg [5,6] k1 (fun kq v5 v6 w' => ∃ (x5_2 : Int) (x6_2 : Int),v5 = .int .i64 x5_2 ∧ v6 = .int .i64 x6_2 ∧ Aside0 (spec_l04Size.l1 kq x3_1 x4_1 x5_2 x6_2 l0_0 = some r) ∧ Aside0 (kq ≤ k1) ∧ Aside0 (Kd.R (Kd.int .i64) 3 w' w.heap.size (fun _ => True) u3 x3_1) ∧ Aside0 (w'.heap[gb119]? = some (.cells #[(.slice A0_0 l0_0.length c0_0)] 44 (0,0))) ∧ Aside0 (Below w.heap.size w w'))
    case atStart => exact ⟨(1),(0),(by first|rfl|(exact congrArg Value.bool (isEmpty_ne _))|(exact congrArg Value.bool (isEmpty_ne' _))|(exact congrArg Value.bool (isEmpty_eq _))|(simp;done)|(simp [*];done)),(by first|rfl|(exact congrArg Value.bool (isEmpty_ne _))|(exact congrArg Value.bool (isEmpty_ne' _))|(exact congrArg Value.bool (isEmpty_eq _))|(simp;done)|(simp [*];done)),H',⟨Nat.le_refl _⟩,⟨by (with_reducible repeat (first|apply Kd.R_alloc|apply Kd.R_drewN|apply Kd.R_drew));exact HO_3.out⟩,⟨by (with_reducible repeat first|refine zl_ ?_ _|refine zr_ ?_|refine zk_ ?_ _);exact BK119.out⟩,⟨by repeat (first|(with_reducible first|exact HB.out|apply za_|apply zn_|apply zd_|refine zs_ ?_ GE119.out)|exact HB.out)⟩⟩
    case round =>
     clear H'
     try clear p2
     try clear c4
     try clear c5
     try clear c5b0
     try clear hcz6_0
     try clear hfz6_0
     try clear p2
     obtain ⟨x5_2,x6_2,rfl,rfl,HA,HK2,HO_3,BK119,HB⟩:=hrel
     cases gk with
     |zero => exact absurd HA.out (by simp [spec_l04Size.l1])
     |succ k2 =>
      have H:=HA.out
      clear HA
      simp only [spec_l04Size.l1] at H
      by_cases c7 : 0 ≤ x4_1
      ·rw [if_pos c7] at H
       have c7b0 : decide (0 ≤ x4_1) = true:=decide_eq_true c7
       clear c7
       by_cases c8 : x4_1 < (l0_0.length : Int)
       ·rw [if_pos c8] at H
        have c8b0 : decide (x4_1 < (l0_0.length : Int)) = true:=decide_eq_true c8
        clear c8
        by_cases c9 : x6_2 < (((rd_T70 l0_0 x4_1).f3).length : Int)
        ·rw [if_pos c9] at H
         have c9b0 : decide (x6_2 < (((rd_T70 l0_0 x4_1).f3).length : Int)) = true:=decide_eq_true c9
         clear c9
         by_cases c10 : 0 ≤ x6_2
         ·rw [if_pos c10] at H
          have c10b0 : decide (0 ≤ x6_2) = true:=decide_eq_true c10
          clear c10
          by_cases c11 : 0 ≤ (rd ((rd_T70 l0_0 x4_1).f3) x6_2)
          ·rw [if_pos c11] at H
           have c11b0 : decide (0 ≤ (rd ((rd_T70 l0_0 x4_1).f3) x6_2)) = true:=decide_eq_true c11
           clear c11
           by_cases c12 : (rd ((rd_T70 l0_0 x4_1).f3) x6_2) < (x3_1.length : Int)
           ·rw [if_pos c12] at H
            have c12b0 : decide ((rd ((rd_T70 l0_0 x4_1).f3) x6_2) < (x3_1.length : Int)) = true:=decide_eq_true c12
            clear c12
            have H':=zm_ H
            clear H
            have hcz13_0 : wr.cell? ⟨gb119,0,none⟩ = some (.slice A0_0 l0_0.length c0_0):=(zc_ BK119.out 0).trans rfl
            have hfz13_0:=zf_ BK119.out 0
            have p124 : 0 ≤ (x4_1 : Int):=zo_
            have q124 : x4_1 < (l0_0.length : Int):=zo_
            obtain ⟨ad124,A124_3,c124_3,e124,hx124_0,hx124_1,hx124_2,hx124_3,hl124_3,hi124_3⟩:=at_T70 HR0_0.out x4_1 p124 q124
            cases e124
            replace hx124_0:=(HB.out.cell (zb_ w _ hx124_0)).trans hx124_0
            replace hx124_1:=(HB.out.cell (zb_ w _ hx124_1)).trans hx124_1
            replace hx124_2:=(HB.out.cell (zb_ w _ hx124_2)).trans hx124_2
            replace hx124_3:=(HB.out.cell (zb_ w _ hx124_3)).trans hx124_3
            have HR124_3:=zm_ hi124_3
            have HC124_3:=zm_ hl124_3
            clear hi124_3 hl124_3
            replace p124:=eq_true p124
            replace q124:=eq_true q124
            have p125 : 0 ≤ (x4_1 : Int):=zo_
            have q125 : x4_1 < (l0_0.length : Int):=zo_
            obtain ⟨ad125,A125_3,c125_3,e125,hx125_0,hx125_1,hx125_2,hx125_3,hl125_3,hi125_3⟩:=at_T70 HR0_0.out x4_1 p125 q125
            obtain rfl : ad124 = ad125:=(by injection e125)
            replace hx125_0:=(HB.out.cell (zb_ w _ hx125_0)).trans hx125_0
            replace hx125_1:=(HB.out.cell (zb_ w _ hx125_1)).trans hx125_1
            replace hx125_2:=(HB.out.cell (zb_ w _ hx125_2)).trans hx125_2
            replace hx125_3:=(HB.out.cell (zb_ w _ hx125_3)).trans hx125_3
            have HR125_3:=zm_ hi125_3
            have HC125_3:=zm_ hl125_3
            clear hi125_3 hl125_3
            replace p125:=eq_true p125
            replace q125:=eq_true q125
            have ea_:=Option.some.inj (hx124_3.symm.trans hx125_3)
            injection ea_ with ea_ en_ ec_
            subst ea_
            subst ec_
            clear en_
            have p126 : 0 ≤ (x6_2 : Int):=zo_
            have q126 : x6_2 < (((rd_T70 l0_0 x4_1).f3).length : Int):=zo_
            obtain ⟨ad126,e126,hx126_0⟩:=Kd.at_int HR125_3.out x6_2 p126 q126
            cases e126
            replace hx126_0:=(HB.out.cell (zb_ w _ hx126_0)).trans hx126_0
            replace p126:=eq_true p126
            replace q126:=eq_true q126
            obtain ⟨Ao14,co14,eo14⟩:=Kd.R_slice HO_3.out
            subst eo14
            have p127 : 0 ≤ ((rd ((rd_T70 l0_0 x4_1).f3) x6_2) : Int):=zo_
            have q127 : (rd ((rd_T70 l0_0 x4_1).f3) x6_2) < (x3_1.length : Int):=zo_
            obtain ⟨ad127,e127,hx127_0⟩:=Kd.at_int (Kd.R_reads' HO_3.out).2.2 (rd ((rd_T70 l0_0 x4_1).f3) x6_2) p127 q127
            cases e127
            replace p127:=eq_true p127
            replace q127:=eq_true q127
            go_wp2
            go_roundg k2
            case measure => have:=HK1.out;have:=HK2.out;omega
            case rel => exact ⟨(wrap64 (x5_2 + (rd x3_1 (rd ((rd_T70 l0_0 x4_1).f3) x6_2)))),(wrap64 (x6_2 + 1)),(by first|rfl|(exact congrArg Value.bool (isEmpty_ne _))|(exact congrArg Value.bool (isEmpty_ne' _))|(exact congrArg Value.bool (isEmpty_eq _))|(simp;done)|(simp [*];done)),(by first|rfl|(exact congrArg Value.bool (isEmpty_ne _))|(exact congrArg Value.bool (isEmpty_ne' _))|(exact congrArg Value.bool (isEmpty_eq _))|(simp;done)|(simp [*];done)),H',⟨by have:=HK1.out;have:=HK2.out;omega⟩,⟨by (with_reducible repeat (first|apply Kd.R_alloc|apply Kd.R_drewN|apply Kd.R_drew));exact HO_3.out⟩,⟨by (with_reducible repeat first|refine zl_ ?_ _|refine zr_ ?_|refine zk_ ?_ _);exact BK119.out⟩,⟨by repeat (first|(with_reducible first|exact HB.out|apply za_|apply zn_|apply zd_|refine zs_ ?_ GE119.out)|exact HB.out)⟩⟩
           ·rw [if_neg c12] at H
            exact absurd H (by simp)
          ·rw [if_neg c11] at H
           exact absurd H (by simp)
         ·rw [if_neg c10] at H
          exact absurd H (by simp)
        ·rw [if_neg c9] at H
         have c9b0 : decide (x6_2 < (((rd_T70 l0_0 x4_1).f3).length : Int)) = false:=decide_eq_false c9
         clear c9
         by_cases c15 : x5_2 > 201
         ·rw [if_pos c15] at H
          have c15b0 : decide (201 < x5_2) = true:=decide_eq_true c15
          clear c15
          by_cases c16 : x3_1.length < 17592186044416
          ·rw [if_pos c16] at H
           have LMc16:=zm_ c16
           clear c16
           obtain ⟨y128,hy128⟩ : ∃ y_ : List Int,y_ = (x3_1 ++ [201]):=⟨_,rfl⟩
           replace H : (spec_l04Size.l0 k2 y128 (wrap64 (x4_1 + 1)) l0_0) = some r:=by first|(rw [hy128];with_reducible exact H)|(have H2_:=(Option.bind_some _ _).symm.trans H;rw [hy128];with_reducible exact H2_)|(have H2_:=(Option.bind_some _ _).symm.trans H;with_reducible exact H2_)|with_reducible exact H|(rw [hy128];exact H)|exact H
           have Ny128:=zm_ hy128
           clear hy128
           have H':=zm_ H
           clear H
           have hcz17_0 : wr.cell? ⟨gb119,0,none⟩ = some (.slice A0_0 l0_0.length c0_0):=(zc_ BK119.out 0).trans rfl
           have hfz17_0:=zf_ BK119.out 0
           have p124 : 0 ≤ (x4_1 : Int):=zo_
           have q124 : x4_1 < (l0_0.length : Int):=zo_
           obtain ⟨ad124,A124_3,c124_3,e124,hx124_0,hx124_1,hx124_2,hx124_3,hl124_3,hi124_3⟩:=at_T70 HR0_0.out x4_1 p124 q124
           cases e124
           replace hx124_0:=(HB.out.cell (zb_ w _ hx124_0)).trans hx124_0
           replace hx124_1:=(HB.out.cell (zb_ w _ hx124_1)).trans hx124_1
           replace hx124_2:=(HB.out.cell (zb_ w _ hx124_2)).trans hx124_2
           replace hx124_3:=(HB.out.cell (zb_ w _ hx124_3)).trans hx124_3
           have HR124_3:=zm_ hi124_3
           have HC124_3:=zm_ hl124_3
           clear hi124_3 hl124_3
           replace p124:=eq_true p124
           replace q124:=eq_true q124
           go_wp2_with (first|((with_reducible refine gate_builtin (b:=.append) (xs:=#[.tmp 42,.tmp 44]) rfl ?_);at_builtin;refine Kd.R_append (Kd.int .i64) (w0:=w) w.heap.size rfl (.tmp 42) (.tmp 44) 68 3 (.int .i64 0) 8 rfl Tryd.underlying68 info3 rfl (by decide) (by omega) u3 x3_1 201 [.int .i64 201] (fun _ => True) (fun _ => False) rfl rfl ?aP (fun _ hk => hk.elim) ?aF ?aO ?aB ?aS ?aL ?_;(case aP => exact rfl);(case aB => exact (by repeat (first|(with_reducible first|exact HB.out|apply za_|apply zn_|apply zd_|refine zs_ ?_ GE119.out)|exact HB.out)));(case aF => exact (fun _ _ => trivial));(case aO => exact (by (with_reducible repeat (first|apply Kd.R_alloc|apply Kd.R_drewN|apply Kd.R_drew));exact HO_3.out));(case aS => exact (below_size (by repeat (first|(with_reducible first|exact HB.out|apply za_|apply zn_|apply zd_|refine zs_ ?_ GE119.out)|exact HB.out))));(case aL => have:=LMc16.out;omega);intro v129 w18 ho hb hg hat;rw [← Ny128.out] at ho;have n0_:=zm_ (blk_grown (g:=gb119) (o:=.cells #[.slice (some ad124) l0_0.length c0_0] 44 (0,0)) (by (with_reducible repeat first|refine zl_ ?_ _|refine zr_ ?_|refine zk_ ?_ _);exact BK119.out) hg (Kd.R_ne HO_3.out BK119.out (by decide)));have n1_:=zm_ (hb);have n2_:=zm_ (ho);clear BK119;clear HB;clear HO_3;have BK119:=n0_;have HB:=n1_;have HO130:=n2_;clear n0_ n1_ n2_;clear ho hb hg hat))
           go_roundg k2
           case measure => have:=HK1.out;have:=HK2.out;omega
           case rel => exact ⟨(y128),(wrap64 (x4_1 + 1)),(by first|rfl|(exact congrArg Value.bool (isEmpty_ne _))|(exact congrArg Value.bool (isEmpty_ne' _))|(exact congrArg Value.bool (isEmpty_eq _))|(simp;done)|(simp [*];done)),H',⟨by have:=HK1.out;have:=HK2.out;omega⟩,⟨by (with_reducible repeat (first|apply Kd.R_alloc|apply Kd.R_drewN|apply Kd.R_drew));exact HO130.out⟩,⟨by (with_reducible repeat first|refine zl_ ?_ _|refine zr_ ?_|refine zk_ ?_ _);exact BK119.out⟩,⟨by repeat (first|(with_reducible first|exact HB.out|apply za_|apply zn_|apply zd_|refine zs_ ?_ GE119.out)|exact HB.out)⟩⟩
          ·rw [if_neg c16] at H
           exact absurd H (by simp)
         ·rw [if_neg c15] at H
          have c15b0 : decide (201 < x5_2) = false:=decide_eq_false c15
          clear c15
          by_cases c19 : x3_1.length < 17592186044416
          ·rw [if_pos c19] at H
           have LMc19:=zm_ c19
           clear c19
           obtain ⟨y131,hy131⟩ : ∃ y_ : List Int,y_ = (x3_1 ++ [x5_2]):=⟨_,rfl⟩
           replace H : (spec_l04Size.l0 k2 y131 (wrap64 (x4_1 + 1)) l0_0) = some r:=by first|(rw [hy131];with_reducible exact H)|(have H2_:=(Option.bind_some _ _).symm.trans H;rw [hy131];with_reducible exact H2_)|(have H2_:=(Option.bind_some _ _).symm.trans H;with_reducible exact H2_)|with_reducible exact H|(rw [hy131];exact H)|exact H
           have Ny131:=zm_ hy131
           clear hy131
           have H':=zm_ H
           clear H
           have hcz20_0 : wr.cell? ⟨gb119,0,none⟩ = some (.slice A0_0 l0_0.length c0_0):=(zc_ BK119.out 0).trans rfl
           have hfz20_0:=zf_ BK119.out 0
           have p124 : 0 ≤ (x4_1 : Int):=zo_
           have q124 : x4_1 < (l0_0.length : Int):=zo_
           obtain ⟨ad124,A124_3,c124_3,e124,hx124_0,hx124_1,hx124_2,hx124_3,hl124_3,hi124_3⟩:=at_T70 HR0_0.out x4_1 p124 q124
           cases e124
           replace hx124_0:=(HB.out.cell (zb_ w _ hx124_0)).trans hx124_0
           replace hx124_1:=(HB.out.cell (zb_ w _ hx124_1)).trans hx124_1
           replace hx124_2:=(HB.out.cell (zb_ w _ hx124_2)).trans hx124_2
           replace hx124_3:=(HB.out.cell (zb_ w _ hx124_3)).trans hx124_3
           have HR124_3:=zm_ hi124_3
           have HC124_3:=zm_ hl124_3
           clear hi124_3 hl124_3
           replace p124:=eq_true p124
           replace q124:=eq_true q124
           go_wp2_with (first|((with_reducible refine gate_builtin (b:=.append) (xs:=#[.tmp 42,.tmp 44]) rfl ?_);at_builtin;refine Kd.R_append (Kd.int .i64) (w0:=w) w.heap.size rfl (.tmp 42) (.tmp 44) 68 3 (.int .i64 0) 8 rfl Tryd.underlying68 info3 rfl (by decide) (by omega) u3 x3_1 x5_2 [.int .i64 x5_2] (fun _ => True) (fun _ => False) rfl rfl ?aP (fun _ hk => hk.elim) ?aF ?aO ?aB ?aS ?aL ?_;(case aP => exact rfl);(case aB => exact (by repeat (first|(with_reducible first|exact HB.out|apply za_|apply zn_|apply zd_|refine zs_ ?_ GE119.out)|exact HB.out)));(case aF => exact (fun _ _ => trivial));(case aO => exact (by (with_reducible repeat (first|apply Kd.R_alloc|apply Kd.R_drewN|apply Kd.R_drew));exact HO_3.out));(case aS => exact (below_size (by repeat (first|(with_reducible first|exact HB.out|apply za_|apply zn_|apply zd_|refine zs_ ?_ GE119.out)|exact HB.out))));(case aL => have:=LMc19.out;omega);intro v132 w21 ho hb hg hat;rw [← Ny131.out] at ho;have n0_:=zm_ (blk_grown (g:=gb119) (o:=.cells #[.slice (some ad124) l0_0.length c0_0] 44 (0,0)) (by (with_reducible repeat first|refine zl_ ?_ _|refine zr_ ?_|refine zk_ ?_ _);exact BK119.out) hg (Kd.R_ne HO_3.out BK119.out (by decide)));have n1_:=zm_ (hb);have n2_:=zm_ (ho);clear BK119;clear HB;clear HO_3;have BK119:=n0_;have HB:=n1_;have HO133:=n2_;clear n0_ n1_ n2_;clear ho hb hg hat))
           go_roundg k2
           case measure => have:=HK1.out;have:=HK2.out;omega
           case rel => exact ⟨(y131),(wrap64 (x4_1 + 1)),(by first|rfl|(exact congrArg Value.bool (isEmpty_ne _))|(exact congrArg Value.bool (isEmpty_ne' _))|(exact congrArg Value.bool (isEmpty_eq _))|(simp;done)|(simp [*];done)),H',⟨by have:=HK1.out;have:=HK2.out;omega⟩,⟨by (with_reducible repeat (first|apply Kd.R_alloc|apply Kd.R_drewN|apply Kd.R_drew));exact HO133.out⟩,⟨by (with_reducible repeat first|refine zl_ ?_ _|refine zr_ ?_|refine zk_ ?_ _);exact BK119.out⟩,⟨by repeat (first|(with_reducible first|exact HB.out|apply za_|apply zn_|apply zd_|refine zs_ ?_ GE119.out)|exact HB.out)⟩⟩
          ·rw [if_neg c19] at H
           exact absurd H (by simp)
       ·rw [if_neg c8] at H
        exact absurd H (by simp)
      ·rw [if_neg c7] at H
       exact absurd H (by simp)
   ·rw [if_neg c5] at H
    have c5b0 : decide (x4_1 < (l0_0.length : Int)) = false:=decide_eq_false c5
    clear c5
    obtain ⟨ji22,hji22⟩ : ∃ j_ : Int,(wrap64 ((x3_1.length : Int) - 1)) = j_:=⟨_,rfl⟩
    replace H : (if 0 ≤ (ji22) then (if (ji22) < (x3_1.length : Int) then (some (rd x3_1 (ji22))) else (none)) else (none)) = some r:=by first|(rw [hji22] at H;exact H)|(simp only [hji22] at H ⊢;exact H)
    have hji22w : (IntKind.i64.wrap ((x3_1.length : Int) - 1)) = ji22:=(i64_w _).trans hji22
    by_cases c23 : 0 ≤ (ji22)
    ·rw [if_pos c23] at H
     have c23b0 : decide (0 ≤ (ji22)) = true:=decide_eq_true c23
     clear c23
     by_cases c24 : (ji22) < (x3_1.length : Int)
     ·rw [if_pos c24] at H
      have c24b0 : decide ((ji22) < (x3_1.length : Int)) = true:=decide_eq_true c24
      clear c24
      obtain rfl:=Option.some.inj H
      have hcz25_0 : wr.cell? ⟨gb119,0,none⟩ = some (.slice A0_0 l0_0.length c0_0):=(zc_ BK119.out 0).trans rfl
      have hfz25_0:=zf_ BK119.out 0
      obtain ⟨Ao26,co26,eo26⟩:=Kd.R_slice HO_3.out
      subst eo26
      have p123 : 0 ≤ ((ji22) : Int):=zo_
      have q123 : (ji22) < (x3_1.length : Int):=zo_
      obtain ⟨ad123,e123,hx123_0⟩:=Kd.at_int (Kd.R_reads' HO_3.out).2.2 (ji22) p123 q123
      cases e123
      replace p123:=eq_true p123
      replace q123:=eq_true q123
      go_wp2
      go_ret
      exact ⟨by first|rfl|(simp [errW_none,errW_some] <;> rfl)|(simp only [← hji22];first|rfl|(simp [errW_none,errW_some] <;> rfl))|(simp [*,errW_none,errW_some] <;> rfl),by repeat (first|(with_reducible first|exact HB.out|apply za_|apply zn_|apply zd_|refine zs_ ?_ GE119.out)|exact HB.out)⟩
     ·rw [if_neg c24] at H
      exact absurd H (by simp)
    ·rw [if_neg c23] at H
     exact absurd H (by simp)

def spec_l01Figure.f (a0 : Int) : Option (Int):=if a0 < 10 then (some ((wrap64 (48 + a0)) % 256)) else (some ((wrap64 ((wrap64 (97 + a0)) - 10)) % 256))
set_option maxHeartbeats 8000000 in
set_option maxRecDepth 100000 in
theorem spec_l01Figure.calls (a0 : Int) (r : Int) (w : World) (h : spec_l01Figure.f a0 = some r) :
  Calls Tryd.prog 30 #[.int .i64 a0] w fun e w' => e = .returned (.int .u8 r) ∧ Drawn0 w w':=by
 have H : (if a0 < 10 then (some ((wrap64 (48 + a0)) % 256)) else (some ((wrap64 ((wrap64 (97 + a0)) - 10)) % 256))) = some r:=h
 clear h
 by_cases c2 : a0 < 10
 ·rw [if_pos c2] at H
  have c2b0 : decide (a0 < 10) = true:=decide_eq_true c2
  clear c2
  obtain rfl:=Option.some.inj H
  go_enter Tryd.func30,Tryd.ntmps30
  go_wp2
  go_ret
  exact ⟨by first|rfl|(simp;done)|(simp [*];done),by repeat (first|exact Drawn0.refl _|apply Drawn0.step)⟩
 ·rw [if_neg c2] at H
  have c2b0 : decide (a0 < 10) = false:=decide_eq_false c2
  clear c2
  obtain rfl:=Option.some.inj H
  go_enter Tryd.func30,Tryd.ntmps30
  go_wp2
  go_ret
  exact ⟨by first|rfl|(simp;done)|(simp [*];done),by repeat (first|exact Drawn0.refl _|apply Drawn0.step)⟩

def spec_Decimal.l0 : Nat → Int → Bool → ByteArray → Option (ByteArray)
 |0,_,_,_ => none
 |k + 1,x0,x3,x4 => if x0 = 0 then (if x3 = true then (if 1 + x4.size ≤ 9223372036854775807 then (some ((⟨#[45]⟩ : ByteArray) ++ x4)) else (none)) else (some x4)) else (if (Int.tmod x0 10) < 0 then ((spec_l01Figure.f (wrap64 (-(Int.tmod x0 10)))).bind fun t134 => ((some (([t134] : List Int) : List Int)).bind fun y135 => (if (strOfNums y135).size + x4.size ≤ 9223372036854775807 then (spec_Decimal.l0 k (wrap64 (Int.tdiv x0 10)) x3 ((strOfNums y135) ++ x4)) else (none)))) else ((spec_l01Figure.f (Int.tmod x0 10)).bind fun t138 => ((some (([t138] : List Int) : List Int)).bind fun y139 => (if (strOfNums y139).size + x4.size ≤ 9223372036854775807 then (spec_Decimal.l0 k (wrap64 (Int.tdiv x0 10)) x3 ((strOfNums y139) ++ x4)) else (none)))))
def spec_Decimal.f (k : Nat) (a0 : Int) : Option (ByteArray):=if a0 = 0 then (some (⟨#[48]⟩ : ByteArray)) else (spec_Decimal.l0 k a0 (decide (a0 < 0)) (⟨#[]⟩ : ByteArray))
theorem spec_Decimal.mono_l : ∀ k,(∀ y0 y1 y2,LeO (spec_Decimal.l0 k y0 y1 y2) (spec_Decimal.l0 (k + 1) y0 y1 y2))
 |0 => fun _ _ _ r h => by simp [spec_Decimal.l0] at h
 |k + 1 => by
  have ih0:=spec_Decimal.mono_l k
  ·intro y0 y1 y2
   unfold spec_Decimal.l0
   repeat' first
   |(with_reducible exact ih0 _ _ _)
   |(with_reducible exact LeO.refl _)
   |(with_reducible exact LeO.none _)
   |(with_reducible refine LeO.ite ?_ ?_)
   |(with_reducible refine LeO.bind ?_ (fun _ => ?_))
theorem spec_Decimal.mono : ∀ a0 k,LeO (spec_Decimal.f k a0) (spec_Decimal.f (k + 1) a0):=by
 intro a0 k
 have ih0:=spec_Decimal.mono_l k
 unfold spec_Decimal.f
 repeat' first
   |(with_reducible exact ih0 _ _ _)
   |(with_reducible exact LeO.refl _)
   |(with_reducible exact LeO.none _)
   |(with_reducible refine LeO.ite ?_ ?_)
   |(with_reducible refine LeO.bind ?_ (fun _ => ?_))
set_option maxHeartbeats 8000000 in
set_option maxRecDepth 100000 in
theorem spec_Decimal.calls (k : Nat) (a0 : Int) (r : ByteArray) (w : World) (h : spec_Decimal.f k a0 = some r) :
  Calls Tryd.prog 8 #[.int .i64 a0] w fun e w' => e = .returned (.string r) ∧ Below w.heap.size w w':=by
 have HB:=zm_ (Below.refl w.heap.size w)
 have H : (if a0 = 0 then (some (⟨#[48]⟩ : ByteArray)) else (spec_Decimal.l0 k a0 (decide (a0 < 0)) (⟨#[]⟩ : ByteArray))) = some r:=h
 clear h
 by_cases c2 : a0 = 0
 ·rw [if_pos c2] at H
  have c2b0 : (a0 == 0) = true:=beq_iff_eq.mpr c2
  have c2b1 : (a0 != 0) = false:=bne_eq_false_iff_eq.mpr c2
  clear c2
  obtain rfl:=Option.some.inj H
  go_enter Tryd.func8,Tryd.ntmps8
  go_wp2
  go_ret
  exact ⟨by first|rfl|(simp [errW_none,errW_some] <;> rfl)|(simp [*,errW_none,errW_some] <;> rfl),by repeat (first|(with_reducible first|exact HB.out|apply za_|apply zn_|apply zd_)|exact HB.out)⟩
 ·rw [if_neg c2] at H
  have c2b0 : (a0 == 0) = false:=beq_eq_false_iff_ne.mpr c2
  have c2b1 : (a0 != 0) = true:=bne_iff_ne.mpr c2
  have H':=zm_ H
  clear H
  go_enter Tryd.func8,Tryd.ntmps8
  go_wp2
  go_loopg [0,4] k (fun kq v0 v4 w' => ∃ (x0_1 : Int) (x4_1 : ByteArray),v0 = .int .i64 x0_1 ∧ v4 = .string x4_1 ∧ Aside0 (spec_Decimal.l0 kq x0_1 (decide (a0 < 0)) x4_1 = some r) ∧ Aside0 (kq ≤ k) ∧ Aside0 (Below w.heap.size w w'))
  case atStart => exact ⟨(a0),((⟨#[]⟩ : ByteArray)),(by first|rfl|(exact congrArg Value.bool (isEmpty_ne _))|(exact congrArg Value.bool (isEmpty_ne' _))|(exact congrArg Value.bool (isEmpty_eq _))|(simp;done)|(simp [*];done)),(by first|rfl|(exact congrArg Value.bool (isEmpty_ne _))|(exact congrArg Value.bool (isEmpty_ne' _))|(exact congrArg Value.bool (isEmpty_eq _))|(simp;done)|(simp [*];done)),H',⟨Nat.le_refl _⟩,⟨by repeat (first|(with_reducible first|exact HB.out|apply za_|apply zn_|apply zd_)|exact HB.out)⟩⟩
  case round =>
   clear H'
   try clear c2
   try clear c2b0
   try clear c2b1
   try clear p2
   obtain ⟨x0_1,x4_1,rfl,rfl,HA,HK1,HB⟩:=hrel
   cases gk with
   |zero => exact absurd HA.out (by simp [spec_Decimal.l0])
   |succ k1 =>
    have H:=HA.out
    clear HA
    simp only [spec_Decimal.l0] at H
    by_cases c3 : x0_1 = 0
    ·rw [if_pos c3] at H
     have c3b0 : (x0_1 == 0) = true:=beq_iff_eq.mpr c3
     have c3b1 : (x0_1 != 0) = false:=bne_eq_false_iff_eq.mpr c3
     clear c3
     by_cases c4 : (decide (a0 < 0)) = true
     ·rw [if_pos c4] at H
      have c4b0 : (decide (a0 < 0)) = true:=c4
      have c4b9 : a0 < 0:=of_decide_eq_true c4b0
      clear c4
      by_cases c5 : 1 + x4_1.size ≤ 9223372036854775807
      ·rw [if_pos c5] at H
       have c5b0:=eq_true c5
       have c5b1 : decide (1 + x4_1.size ≤ 9223372036854775807) = true:=decide_eq_true c5
       try have c5b2 : (9223372036854775807 < 1 + x4_1.size) = False:=eq_false (Nat.not_lt.2 c5)
       obtain rfl:=Option.some.inj H
       go_wp2
       go_ret
       exact ⟨by first|rfl|(simp [errW_none,errW_some] <;> rfl)|(simp [*,errW_none,errW_some] <;> rfl),by repeat (first|(with_reducible first|exact HB.out|apply za_|apply zn_|apply zd_)|exact HB.out)⟩
      ·rw [if_neg c5] at H
       exact absurd H (by simp)
     ·rw [if_neg c4] at H
      have c4b0 : (decide (a0 < 0)) = false:=by simpa using c4
      have c4b9 : ¬ (a0 < 0):=of_decide_eq_false c4b0
      clear c4
      obtain rfl:=Option.some.inj H
      go_wp2
      go_ret
      exact ⟨by first|rfl|(simp [errW_none,errW_some] <;> rfl)|(simp [*,errW_none,errW_some] <;> rfl),by repeat (first|(with_reducible first|exact HB.out|apply za_|apply zn_|apply zd_)|exact HB.out)⟩
    ·rw [if_neg c3] at H
     have c3b0 : (x0_1 == 0) = false:=beq_eq_false_iff_ne.mpr c3
     have c3b1 : (x0_1 != 0) = true:=bne_iff_ne.mpr c3
     by_cases c6 : (Int.tmod x0_1 10) < 0
     ·rw [if_pos c6] at H
      have c6b0 : decide ((Int.tmod x0_1 10) < 0) = true:=decide_eq_true c6
      clear c6
      replace H:=Option.bind_eq_some_iff.mp H
      obtain ⟨t134,A70,H⟩:=H
      replace H : ((some (([t134] : List Int) : List Int)).bind fun y135 => (if (strOfNums y135).size + x4_1.size ≤ 9223372036854775807 then (spec_Decimal.l0 k1 (wrap64 (Int.tdiv x0_1 10)) (decide (a0 < 0)) ((strOfNums y135) ++ x4_1)) else (none))) = some r:=H
      have A7:=zm_ A70
      clear A70
      obtain ⟨y135,hy135⟩ : ∃ y_ : List Int,y_ = (([t134] : List Int)):=⟨_,rfl⟩
      replace H : (if (strOfNums y135).size + x4_1.size ≤ 9223372036854775807 then (spec_Decimal.l0 k1 (wrap64 (Int.tdiv x0_1 10)) (decide (a0 < 0)) ((strOfNums y135) ++ x4_1)) else (none)) = some r:=by first|(rw [hy135];with_reducible exact H)|(have H2_:=(Option.bind_some _ _).symm.trans H;rw [hy135];with_reducible exact H2_)|(have H2_:=(Option.bind_some _ _).symm.trans H;with_reducible exact H2_)|with_reducible exact H|(rw [hy135];exact H)|exact H
      have Ny135:=zm_ hy135
      clear hy135
      by_cases c8 : (strOfNums y135).size + x4_1.size ≤ 9223372036854775807
      ·rw [if_pos c8] at H
       have c8b0:=eq_true c8
       have c8b1 : decide ((strOfNums y135).size + x4_1.size ≤ 9223372036854775807) = true:=decide_eq_true c8
       try have c8b2 : (9223372036854775807 < (strOfNums y135).size + x4_1.size) = False:=eq_false (Nat.not_lt.2 c8)
       have H':=zm_ H
       clear H
       go_wp2_with (first|((with_reducible refine gate_callee (f:=30) rfl ?_);refine goesL_ (some 19) rfl rfl Tryd.func30 (by kernel_rfl) rfl #[.int .i64 (wrap64 (-(Int.tmod x0_1 10)))] rfl (by (try simp only [List.map_toArray,List.map_cons,List.map_nil]);first|done|rfl|(simp only [List.length_drop,List.length_take];rfl)) ?_;(with_reducible refine (spec_l01Figure.calls (wrap64 (-(Int.tmod x0_1 10))) t134 _ A7.out).mono ?_);rintro e w' ⟨rfl,⟨nd,rfl⟩⟩;refine ⟨_,rfl,?_⟩)|((with_reducible refine gate_dst (N:=20) rfl ?_);refine Kd.R_lit (Kd.int .u8) _ 5 ?hg (N:=20) ?hd (xs:=([t134] : List Int)) (inner:=[.int .u8 t134]) (ok:=fun _ => True) (okp:=fun _ => True) ?hr ?hp (fun _ hk => hk) trivial (Below.refl _ _) (Nat.le_refl _) (by simp) ?_;(case hd => rfl);(case hg => rfl);(case hr => first|(go_simp;done)|(go_simp;rfl));(case hp => exact (Reps.one (show Kd.M (Kd.int .u8) _ _ _ t134 [.int .u8 t134] from rfl) (Reps.none _ _)));intro v136 w9 ho10 hb hg_ hnew_;clear hg_ hnew_;(first|rw [← Ny135.out] at ho10|(simp only [Int.reduceToNat] at ho10;rw [← Ny135.out] at ho10));have n0_:=zm_ (Kd.R_lower ho10 (below_size (by repeat (first|(with_reducible first|exact HB.out|apply za_|apply zn_|apply zd_)|exact HB.out))));have n1_:=zm_ (below_step (by repeat (first|(with_reducible first|exact HB.out|apply za_|apply zn_|apply zd_)|exact HB.out)) hb);clear HB;have HO137:=n0_;have HB:=n1_;clear n0_ n1_;clear hb ho10;have hcv11:=own_string (P:=Tryd.prog) Tryd.underlying48 Tryd.underlying5 Tryd.underlying9 (Kd.own_of_R HO137.out)))
       go_roundg k1
       case measure => have:=HK1.out;omega
       case rel => exact ⟨(wrap64 (Int.tdiv x0_1 10)),((strOfNums y135) ++ x4_1),(by first|rfl|(exact congrArg Value.bool (isEmpty_ne _))|(exact congrArg Value.bool (isEmpty_ne' _))|(exact congrArg Value.bool (isEmpty_eq _))|(simp;done)|(simp [*];done)),(by first|rfl|(exact congrArg Value.bool (isEmpty_ne _))|(exact congrArg Value.bool (isEmpty_ne' _))|(exact congrArg Value.bool (isEmpty_eq _))|(simp;done)|(simp [*];done)),H',⟨by have:=HK1.out;omega⟩,⟨by repeat (first|(with_reducible first|exact HB.out|apply za_|apply zn_|apply zd_)|exact HB.out)⟩⟩
      ·rw [if_neg c8] at H
       exact absurd H (by simp)
     ·rw [if_neg c6] at H
      have c6b0 : decide ((Int.tmod x0_1 10) < 0) = false:=decide_eq_false c6
      clear c6
      replace H:=Option.bind_eq_some_iff.mp H
      obtain ⟨t138,A120,H⟩:=H
      replace H : ((some (([t138] : List Int) : List Int)).bind fun y139 => (if (strOfNums y139).size + x4_1.size ≤ 9223372036854775807 then (spec_Decimal.l0 k1 (wrap64 (Int.tdiv x0_1 10)) (decide (a0 < 0)) ((strOfNums y139) ++ x4_1)) else (none))) = some r:=H
      have A12:=zm_ A120
      clear A120
      obtain ⟨y139,hy139⟩ : ∃ y_ : List Int,y_ = (([t138] : List Int)):=⟨_,rfl⟩
      replace H : (if (strOfNums y139).size + x4_1.size ≤ 9223372036854775807 then (spec_Decimal.l0 k1 (wrap64 (Int.tdiv x0_1 10)) (decide (a0 < 0)) ((strOfNums y139) ++ x4_1)) else (none)) = some r:=by first|(rw [hy139];with_reducible exact H)|(have H2_:=(Option.bind_some _ _).symm.trans H;rw [hy139];with_reducible exact H2_)|(have H2_:=(Option.bind_some _ _).symm.trans H;with_reducible exact H2_)|with_reducible exact H|(rw [hy139];exact H)|exact H
      have Ny139:=zm_ hy139
      clear hy139
      by_cases c13 : (strOfNums y139).size + x4_1.size ≤ 9223372036854775807
      ·rw [if_pos c13] at H
       have c13b0:=eq_true c13
       have c13b1 : decide ((strOfNums y139).size + x4_1.size ≤ 9223372036854775807) = true:=decide_eq_true c13
       try have c13b2 : (9223372036854775807 < (strOfNums y139).size + x4_1.size) = False:=eq_false (Nat.not_lt.2 c13)
       have H':=zm_ H
       clear H
       go_wp2_with (first|((with_reducible refine gate_callee (f:=30) rfl ?_);refine goesL_ (some 19) rfl rfl Tryd.func30 (by kernel_rfl) rfl #[.int .i64 (Int.tmod x0_1 10)] rfl (by (try simp only [List.map_toArray,List.map_cons,List.map_nil]);first|done|rfl|(simp only [List.length_drop,List.length_take];rfl)) ?_;(with_reducible refine (spec_l01Figure.calls (Int.tmod x0_1 10) t138 _ A12.out).mono ?_);rintro e w' ⟨rfl,⟨nd,rfl⟩⟩;refine ⟨_,rfl,?_⟩)|((with_reducible refine gate_dst (N:=20) rfl ?_);refine Kd.R_lit (Kd.int .u8) _ 5 ?hg (N:=20) ?hd (xs:=([t138] : List Int)) (inner:=[.int .u8 t138]) (ok:=fun _ => True) (okp:=fun _ => True) ?hr ?hp (fun _ hk => hk) trivial (Below.refl _ _) (Nat.le_refl _) (by simp) ?_;(case hd => rfl);(case hg => rfl);(case hr => first|(go_simp;done)|(go_simp;rfl));(case hp => exact (Reps.one (show Kd.M (Kd.int .u8) _ _ _ t138 [.int .u8 t138] from rfl) (Reps.none _ _)));intro v140 w14 ho15 hb hg_ hnew_;clear hg_ hnew_;(first|rw [← Ny139.out] at ho15|(simp only [Int.reduceToNat] at ho15;rw [← Ny139.out] at ho15));have n0_:=zm_ (Kd.R_lower ho15 (below_size (by repeat (first|(with_reducible first|exact HB.out|apply za_|apply zn_|apply zd_)|exact HB.out))));have n1_:=zm_ (below_step (by repeat (first|(with_reducible first|exact HB.out|apply za_|apply zn_|apply zd_)|exact HB.out)) hb);clear HB;have HO141:=n0_;have HB:=n1_;clear n0_ n1_;clear hb ho15;have hcv16:=own_string (P:=Tryd.prog) Tryd.underlying48 Tryd.underlying5 Tryd.underlying9 (Kd.own_of_R HO141.out)))
       go_roundg k1
       case measure => have:=HK1.out;omega
       case rel => exact ⟨(wrap64 (Int.tdiv x0_1 10)),((strOfNums y139) ++ x4_1),(by first|rfl|(exact congrArg Value.bool (isEmpty_ne _))|(exact congrArg Value.bool (isEmpty_ne' _))|(exact congrArg Value.bool (isEmpty_eq _))|(simp;done)|(simp [*];done)),(by first|rfl|(exact congrArg Value.bool (isEmpty_ne _))|(exact congrArg Value.bool (isEmpty_ne' _))|(exact congrArg Value.bool (isEmpty_eq _))|(simp;done)|(simp [*];done)),H',⟨by have:=HK1.out;omega⟩,⟨by repeat (first|(with_reducible first|exact HB.out|apply za_|apply zn_|apply zd_)|exact HB.out)⟩⟩
      ·rw [if_neg c13] at H
       exact absurd H (by simp)

end Go.Proofs.YtnmhggdaccbbfaaDoor.MFnExactShowExpr
