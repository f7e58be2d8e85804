import Derived.Test.YtkbgmojomgelbaaGreatMFnExactGrammarOkx0
import Derived.Test.YtkbgmojomgelbaaGreatMFnExactGrammarOkx12
import Derived.Test.YtkbgmojomgelbaaGreatMFnExactGrammarOkx15
namespace Go.Proofs.YtkbgmojomgelbaaGreat.MFnExactGrammarOk
open Go.RowKit Go.Proofs.YtkbgmojomgelbaaGreatW.PrintWords Go.Proofs.YtkbgmojomgelbaaGreatW.PrintLast Go.Proofs.YtkbgmojomgelbaaGreatW.PrintMore
attribute [local go_sem] max2_int min2_int max_two min_two max_three min_three max_four min_four
set_option linter.unusedVariables false
set_option linter.unusedSimpArgs false
set_option maxHeartbeats 8000000
set_option maxRecDepth 100000

def impl_FreeOf.l0 : Nat → List ByteArray → List (S147) → Int → Int → Option (List ByteArray)
 |0,_,_,_,_ => none
 |k + 1,x3,x12,x13,x14 => if x14 < x13 then (if 0 ≤ x14 then (if x14 < (x12.length : Int) then (if ((rd_T147 x12 x14).f0) = 2 then (if x3.length < 8796093022208 then (impl_FreeOf.l0 k (x3 ++ [(rd_T147 x12 x14).f2]) x12 x13 (wrap64 (x14 + 1))) else (none)) else (impl_FreeOf.l0 k x3 x12 x13 (wrap64 (x14 + 1)))) else (none)) else (none)) else ((slices_Sort_string_string.f x3).bind fun t406 => ((slices_Compact_string_string.f t406).bind fun t407 => (some t407)))
def impl_FreeOf.f (k : Nat) (l0_0 : List (S147)) : Option (List ByteArray):=(some (([] : List ByteArray) : List ByteArray)).bind fun y397 => ((impl_ExprOk.f k l0_0).bind fun t400 => (if t400 = true then (impl_FreeOf.l0 k y397 l0_0 (l0_0.length : Int) 0) else (some y397)))
theorem impl_FreeOf.calls (k : Nat) (A0_0 : Option Addr) (c0_0 : Nat) (l0_0 : List (S147)) (r : List ByteArray) (w : World) (hr0_0 : Kd.C k147 w A0_0 l0_0.length l0_0) (hc0_0 : l0_0.length ≤ c0_0) (h : impl_FreeOf.f k l0_0 = some r) :
  Calls Tryz.prog 99 #[.agg #[.slice A0_0 l0_0.length c0_0]] w fun e w' => ∃ v0_ : Value,e = .returned (v0_) ∧ Kd.R Kd.string 9 w' w.heap.size (fun _ => True) v0_ r ∧ Below w.heap.size w w':=by
 have hu123:=Tryz.underlying123
 have hu147:=Tryz.underlying147
 have HR0_0:=zm_ hr0_0
 have HC0_0:=zm_ hc0_0
 clear hr0_0 hc0_0
 have HB:=zm_ (Below.refl w.heap.size w)
 have H : ((some (([] : List ByteArray) : List ByteArray)).bind fun y397 => ((impl_ExprOk.f k l0_0).bind fun t400 => (if t400 = true then (impl_FreeOf.l0 k y397 l0_0 (l0_0.length : Int) 0) else (some y397)))) = some r:=h
 clear h
 obtain ⟨y397,hy397⟩ : ∃ y_ : List ByteArray,y_ = (([] : List ByteArray)):=⟨_,rfl⟩
 replace H : ((impl_ExprOk.f k l0_0).bind fun t400 => (if t400 = true then (impl_FreeOf.l0 k y397 l0_0 (l0_0.length : Int) 0) else (some y397))) = some r:=by first|(rw [hy397];with_reducible exact H)|(have H2_:=(Option.bind_some _ _).symm.trans H;rw [hy397];with_reducible exact H2_)|(have H2_:=(Option.bind_some _ _).symm.trans H;with_reducible exact H2_)|with_reducible exact H|(rw [hy397];exact H)|exact H
 have Ny397:=zm_ hy397
 clear hy397
 obtain ⟨t400,A2,H⟩:=zJ_ H
 try dsimp only at H
 by_cases c3 : t400 = true
 rotate_left
 ·replace c3:=Bool.eq_false_iff.mpr c3
  subst c3
  rw [zF_] at H
  obtain rfl:=zi_ H
  go_enter Tryz.func99,Tryz.ntmps99
  go_wp2_with (first|((with_reducible refine gate_dst (N:=1) rfl ?_);refine box_event ?hg (N:=1) ?hd (cs:=#[.slice A0_0 l0_0.length c0_0]) (t:=123) ?hr ?_;(case hd => rfl);(case hg => rfl);(case hr => first|(go_simp;done)|(go_simp;rfl));intro gb396 hg w27 hbox hb;have n0_:=zm_ (below_step zB_ hb);have n1_:=zm_ (hbox);have n2_:=zm_ ((by rw [hg];exact (below_size zB_) : w.heap.size ≤ gb396));have n3_:=zm_ ((by rw [hg];exact (below_size zB_) : w.heap.size ≤ gb396));clear HB;have HB:=n0_;have BK396:=n1_;have GW396:=n2_;have GE396:=n3_;clear n0_ n1_ n2_ n3_;clear hb hbox hg)|((with_reducible refine gate_dst (N:=6) rfl ?_);refine Kd.R_lit Kd.string _ 9 ?hg (N:=6) ?hd (xs:=([] : List ByteArray)) (inner:=[]) (ok:=fun _ => True) (okp:=fun _ => True) ?hr ?hp (fun _ hk => hk) trivial (Below.refl _ _) (Nat.le_refl _) (by simp) ?_;(case hd => rfl);(case hg => rfl);(case hr => first|(go_simp;done)|(go_simp;rfl));(case hp => exact (Reps.none _ _));intro v398 w28 ho29 hb hg_ hnew_;clear hg_ hnew_;(first|rw [← Ny397.out] at ho29|(simp only [Int.reduceToNat] at ho29;rw [← Ny397.out] at ho29));have n0_:=zm_ (Kd.R_lower ho29 (below_size zG_));have n1_:=zm_ (blk_below (g:=gb396) (o:=.cells #[.slice A0_0 l0_0.length c0_0] 123 (0,0)) zK_ hb);have n2_:=zm_ (below_step zG_ hb);clear BK396;clear HB;have HO399:=n0_;have BK396:=n1_;have HB:=n2_;clear n0_ n1_ n2_;clear hb ho29;have hcz30_0 : w28.cell? ⟨gb396,0,none⟩ = some (.slice A0_0 l0_0.length c0_0):=(zc_ BK396.out 0).trans rfl;have hfz30_0:=zf_ BK396.out 0)|((with_reducible refine gate_callee (f:=101) rfl ?_);refine goesL_ (some 8) rfl rfl Tryz.func101 (by kernel_rfl) rfl #[.agg #[.slice A0_0 l0_0.length c0_0]] rfl zq_ ?_;(with_reducible refine (impl_ExprOk.calls k _ _ l0_0 false _ ?side1 ?side2 A2.out).mono ?_);(case side1 => exact zP_);(case side2 => exact HC0_0.out);rintro e w31 ⟨rfl,hb⟩;refine ⟨_,rfl,?_⟩;have n0_:=zm_ (Kd.R_below (by (with_reducible repeat (first|apply Kd.R_alloc|apply Kd.R_drewN|apply Kd.R_drew));exact HO399.out) hb);have n1_:=zm_ (blk_below (g:=gb396) (o:=.cells #[.slice A0_0 l0_0.length c0_0] 123 (0,0)) zK_ hb);have n2_:=zm_ (below_step zG_ hb);clear HO399;clear BK396;clear HB;have HO399:=n0_;have BK396:=n1_;have HB:=n2_;clear n0_ n1_ n2_;(try clear hb)))
  go_ret
  exact ⟨_,by first|rfl|(simp [errW_none,errW_some] <;> rfl)|(simp [*,errW_none,errW_some] <;> rfl),by (with_reducible repeat (first|apply Kd.R_alloc|apply Kd.R_drewN|apply Kd.R_drew));exact HO399.out,zG_⟩


 subst c3
 rw [if_pos rfl] at H
 have H':=zm_ H
 clear H
 go_enter Tryz.func99,Tryz.ntmps99
 go_wp2_with (first|((with_reducible refine gate_dst (N:=1) rfl ?_);refine box_event ?hg (N:=1) ?hd (cs:=#[.slice A0_0 l0_0.length c0_0]) (t:=123) ?hr ?_;(case hd => rfl);(case hg => rfl);(case hr => first|(go_simp;done)|(go_simp;rfl));intro gb396 hg w4 hbox hb;have n0_:=zm_ (below_step zB_ hb);have n1_:=zm_ (hbox);have n2_:=zm_ ((by rw [hg];exact (below_size zB_) : w.heap.size ≤ gb396));have n3_:=zm_ ((by rw [hg];exact (below_size zB_) : w.heap.size ≤ gb396));clear HB;have HB:=n0_;have BK396:=n1_;have GW396:=n2_;have GE396:=n3_;clear n0_ n1_ n2_ n3_;clear hb hbox hg)|((with_reducible refine gate_dst (N:=6) rfl ?_);refine Kd.R_lit Kd.string _ 9 ?hg (N:=6) ?hd (xs:=([] : List ByteArray)) (inner:=[]) (ok:=fun _ => True) (okp:=fun _ => True) ?hr ?hp (fun _ hk => hk) trivial (Below.refl _ _) (Nat.le_refl _) (by simp) ?_;(case hd => rfl);(case hg => rfl);(case hr => first|(go_simp;done)|(go_simp;rfl));(case hp => exact (Reps.none _ _));intro v398 w5 ho6 hb hg_ hnew_;clear hg_ hnew_;(first|rw [← Ny397.out] at ho6|(simp only [Int.reduceToNat] at ho6;rw [← Ny397.out] at ho6));have n0_:=zm_ (Kd.R_lower ho6 (below_size zG_));have n1_:=zm_ (blk_below (g:=gb396) (o:=.cells #[.slice A0_0 l0_0.length c0_0] 123 (0,0)) zK_ hb);have n2_:=zm_ (below_step zG_ hb);clear BK396;clear HB;have HO399:=n0_;have BK396:=n1_;have HB:=n2_;clear n0_ n1_ n2_;clear hb ho6;have hcz7_0 : w5.cell? ⟨gb396,0,none⟩ = some (.slice A0_0 l0_0.length c0_0):=(zc_ BK396.out 0).trans rfl;have hfz7_0:=zf_ BK396.out 0)|((with_reducible refine gate_callee (f:=101) rfl ?_);refine goesL_ (some 8) rfl rfl Tryz.func101 (by kernel_rfl) rfl #[.agg #[.slice A0_0 l0_0.length c0_0]] rfl zq_ ?_;(with_reducible refine (impl_ExprOk.calls k _ _ l0_0 true _ ?side1 ?side2 A2.out).mono ?_);(case side1 => exact zP_);(case side2 => exact HC0_0.out);rintro e w8 ⟨rfl,hb⟩;refine ⟨_,rfl,?_⟩;have n0_:=zm_ (Kd.R_below (by (with_reducible repeat (first|apply Kd.R_alloc|apply Kd.R_drewN|apply Kd.R_drew));exact HO399.out) hb);have n1_:=zm_ (blk_below (g:=gb396) (o:=.cells #[.slice A0_0 l0_0.length c0_0] 123 (0,0)) zK_ hb);have n2_:=zm_ (below_step zG_ hb);clear HO399;clear BK396;clear HB;have HO399:=n0_;have BK396:=n1_;have HB:=n2_;clear n0_ n1_ n2_;(try clear hb);have hcz9_0 : w8.cell? ⟨gb396,0,none⟩ = some (.slice A0_0 l0_0.length c0_0):=(zc_ BK396.out 0).trans rfl;have hfz9_0:=zf_ BK396.out 0))
 go_loopg [3,14] k (fun kq v3 v14 w' => ∃ (x3_1 : List ByteArray) (x14_1 : Int),v14 = .int .i64 x14_1 ∧ Aside0 (impl_FreeOf.l0 kq x3_1 l0_0 (l0_0.length : Int) x14_1 = some r) ∧ Aside0 (kq ≤ k) ∧ Aside0 (Kd.R Kd.string 9 w' w.heap.size (fun _ => True) v3 x3_1) ∧ Aside0 (w'.heap[gb396]? = some (.cells #[(.slice A0_0 l0_0.length c0_0)] 123 (0,0))) ∧ Aside0 (Below w.heap.size w w'))
 case atStart => exact ⟨(y397),(0),zV_,H',⟨Nat.le_refl _⟩,⟨zO_⟩,⟨zK_⟩,⟨zG_⟩⟩
 case round =>
  clear H'
  obtain ⟨x3_1,x14_1,rfl,HA,HK1,HO_3,BK396,HB⟩:=hrel
  cases gk with
  |zero => exact absurd HA.out (by simp [impl_FreeOf.l0])
  |succ k1 =>
   have H:=HA.out
   clear HA
   simp only [impl_FreeOf.l0] at H
   by_cases c10 : x14_1 < (l0_0.length : Int)
   rotate_left
   ·rw [if_neg c10] at H
    have c10b0:=decide_eq_false c10
    clear c10
    obtain ⟨t406,A22,H⟩:=zJ_ H
    try dsimp only at H
    obtain ⟨t407,A23,H⟩:=zJ_ H
    try dsimp only at H
    obtain rfl:=zi_ H
    obtain ⟨Ao24,co24,eo24⟩:=Kd.R_slice HO_3.out
    subst eo24
    go_wp2_with (first|((with_reducible refine gate_callee (f:=123) rfl ?_);refine goesL_ (some 28) rfl rfl Tryz.func123 (by kernel_rfl) rfl #[.slice Ao24 x3_1.length co24] rfl zq_ ?_;(with_reducible refine (slices_Sort_string_string.calls (fun k_ => some k_ = (.slice Ao24 x3_1.length co24 : Value).ownBlock) (.slice Ao24 x3_1.length co24) x3_1 t406 w _ ?side1 ?side2 A22.out).mono ?_);(case side1 => repeat (first|(with_reducible first|exact HB.out|apply za_|apply zn_|apply zd_|refine zs_ ?_ GE396.out)|exact HB.out));(case side2 => exact Kd.R_tight rfl HO_3.out);rintro e w25 ⟨rfl,hy0,hb,hkp⟩;refine ⟨_,rfl,?_⟩;have n0_:=zm_ (Kd.R_reok rfl hy0 (fun k_ e_ => HO_3.out.1 k_ e_));have n1_:=zm_ (blk_kept zK_ hkp (fun hs_ => (fun e_ => (Kd.R_ne HO_3.out BK396.out (by decide)) e_) hs_));have n2_:=zm_ (hb);clear HO_3;clear BK396;clear HB;have HO_3:=n0_;have BK396:=n1_;have HB:=n2_;clear n0_ n1_ n2_;(try clear hb);(try clear hkp);(try clear hy0))|((with_reducible refine gate_callee (f:=124) rfl ?_);refine goesL_ (some 30) rfl rfl Tryz.func124 (by kernel_rfl) rfl #[.slice Ao24 x3_1.length co24] rfl zq_ ?_;(with_reducible refine (slices_Compact_string_string.calls (fun k_ => some k_ = (.slice Ao24 x3_1.length co24 : Value).ownBlock) (.slice Ao24 x3_1.length co24) t406 t407 w _ ?side1 ?side2 A23.out).mono ?_);(case side1 => repeat (first|(with_reducible first|exact HB.out|apply za_|apply zn_|apply zd_|refine zs_ ?_ GE396.out)|exact HB.out));(case side2 => exact Kd.R_tight rfl HO_3.out);rintro e w26 ⟨v408,rfl,ho0,hb,hkp⟩;refine ⟨_,rfl,?_⟩;have n0_:=zm_ (blk_kept zK_ hkp (fun hs_ => (fun e_ => (Kd.R_ne HO_3.out BK396.out (by decide)) e_) hs_));have n1_:=zm_ (Kd.R_mono (ok':=fun k_ => True) ho0 (fun k_ hk_ => trivial));have n2_:=zm_ (hb);clear BK396;clear HB;clear HO_3;have BK396:=n0_;have HO409:=n1_;have HB:=n2_;clear n0_ n1_ n2_;(try clear hb);(try clear hkp);(try clear ho0)))
    go_ret
    exact ⟨_,by first|rfl|(simp [errW_none,errW_some] <;> rfl)|(simp [*,errW_none,errW_some] <;> rfl),by (with_reducible repeat (first|apply Kd.R_alloc|apply Kd.R_drewN|apply Kd.R_drew));exact HO409.out,zG_⟩
   rw [if_pos c10] at H
   have c10b0:=decide_eq_true c10
   clear c10
   by_cases c11 : 0 ≤ x14_1
   rotate_left
   ·rw [if_neg c11] at H
    cases H
   rw [if_pos c11] at H
   have c11b0:=decide_eq_true c11
   clear c11
   by_cases c12 : x14_1 < (l0_0.length : Int)
   rotate_left
   ·rw [if_neg c12] at H
    cases H
   rw [if_pos c12] at H
   have c12b0:=decide_eq_true c12
   clear c12
   by_cases c13 : ((rd_T147 l0_0 x14_1).f0) = 2
   rotate_left
   ·rw [if_neg c13] at H
    have c13b0 : (((rd_T147 l0_0 x14_1).f0) == 2) = false:=beq_eq_false_iff_ne.mpr c13
    have c13b1 : (((rd_T147 l0_0 x14_1).f0) != 2) = true:=bne_iff_ne.mpr c13
    have H':=zm_ H
    clear H
    have p401 : 0 ≤ (x14_1 : Int):=zo_
    have q401 : x14_1 < (l0_0.length : Int):=zo_
    obtain ⟨ad401,A401_3,c401_3,e401,hx401_0,hx401_1,hx401_2,hx401_3,hl401_3,hi401_3⟩:=at_T147 HR0_0.out x14_1 p401 q401
    cases e401
    replace hx401_0:=(HB.out.cell (zb_ w _ hx401_0)).trans hx401_0
    replace hx401_1:=(HB.out.cell (zb_ w _ hx401_1)).trans hx401_1
    replace hx401_2:=(HB.out.cell (zb_ w _ hx401_2)).trans hx401_2
    replace hx401_3:=(HB.out.cell (zb_ w _ hx401_3)).trans hx401_3
    have HR401_3:=zm_ hi401_3
    have HC401_3:=zm_ hl401_3
    clear hi401_3 hl401_3
    replace p401:=eq_true p401
    replace q401:=eq_true q401
    go_wp2_with (first|((with_reducible refine gate_dst (N:=5) rfl ?_);refine box_event ?hg (N:=5) ?hd (cs:=#[.int .i64 0,.int .i64 0,.string (⟨#[]⟩ : ByteArray),.slice none 0 0]) (t:=147) ?hr ?_;(case hd => rfl);(case hg => rfl);(case hr => first|(go_simp;done)|(go_simp;rfl));intro gb402 hg w19 hbox hb;have n0_:=zm_ (Kd.R_below (by (with_reducible repeat (first|apply Kd.R_alloc|apply Kd.R_drewN|apply Kd.R_drew));exact HO_3.out) hb);have n1_:=zm_ (blk_below (g:=gb396) (o:=.cells #[.slice (some ad401) l0_0.length c0_0] 123 (0,0)) zK_ hb);have n2_:=zm_ (below_step zG_ hb);have n3_:=zm_ (hbox);have n4_:=zm_ ((by rw [hg];exact (below_size zG_) : w.heap.size ≤ gb402));have n5_:=zm_ ((by rw [hg];exact (below_size zG_) : w.heap.size ≤ gb402));have n6_:=zm_ ((by rw [hg];exact Nat.ne_of_lt (blk_lt (g:=gb396) (o:=.cells #[.slice (some ad401) l0_0.length c0_0] 123 (0,0)) zK_) : gb396 ≠ gb402));have n7_:=zm_ ((by rw [hg];exact Nat.ne_of_gt (blk_lt (g:=gb396) (o:=.cells #[.slice (some ad401) l0_0.length c0_0] 123 (0,0)) zK_) : gb402 ≠ gb396));clear HO_3;clear BK396;clear HB;have HO_3:=n0_;have BK396:=n1_;have HB:=n2_;have BK402:=n3_;have GW402:=n4_;have GE402:=n5_;have NB396_402:=n6_;have NB402_396:=n7_;clear n0_ n1_ n2_ n3_ n4_ n5_ n6_ n7_;clear hb hbox hg;have hnb20:=NB402_396.out;have hnc20:=NB396_402.out;have hcz21_0 : w19.cell? ⟨gb402,0,none⟩ = some (.int .i64 0):=(zc_ BK402.out 0).trans rfl;have hcz21_1 : w19.cell? ⟨gb402,1,none⟩ = some (.int .i64 0):=(zc_ BK402.out 1).trans rfl;have hcz21_2 : w19.cell? ⟨gb402,2,none⟩ = some (.string (⟨#[]⟩ : ByteArray)):=(zc_ BK402.out 2).trans rfl;have hcz21_3 : w19.cell? ⟨gb402,3,none⟩ = some (.slice none 0 0):=(zc_ BK402.out 3).trans rfl;have hfz21_0:=zf_ BK402.out 0;have hfz21_1:=zf_ BK402.out 1;have hfz21_2:=zf_ BK402.out 2;have hfz21_3:=zf_ BK402.out 3))
    go_roundg k1
    case measure => have:=HK1.out;omega
    case rel => exact ⟨(x3_1),(wrap64 (x14_1 + 1)),zV_,H',⟨by have:=HK1.out;omega⟩,⟨by (with_reducible repeat (first|apply Kd.R_alloc|apply Kd.R_drewN|apply Kd.R_drew));exact Kd.R_mono (Kd.R_far (p:=⟨gb402,3,none⟩) (Kd.R_far (p:=⟨gb402,2,none⟩) (Kd.R_far (p:=⟨gb402,1,none⟩) (Kd.R_far (p:=⟨gb402,0,none⟩) (Kd.R_types HO_3.out BK402.out (by decide)) (fun _ hk => hk.2) (.int .i64 ((rd_T147 l0_0 x14_1).f0))) (fun _ hk => hk.2) (.int .i64 ((rd_T147 l0_0 x14_1).f1))) (fun _ hk => hk.2) (.string ((rd_T147 l0_0 x14_1).f2))) (fun _ hk => hk.2) (.slice A401_3 ((rd_T147 l0_0 x14_1).f3).length c401_3)) (fun _ hk => trivial)⟩,⟨by (with_reducible repeat first|refine zl_ ?_ _|refine zr_ ?_|refine zk_ ?_ _);refine blk_far ?_ NB396_402.out _;(with_reducible repeat first|refine zl_ ?_ _|refine zr_ ?_|refine zk_ ?_ _);refine blk_far ?_ NB396_402.out _;(with_reducible repeat first|refine zl_ ?_ _|refine zr_ ?_|refine zk_ ?_ _);refine blk_far ?_ NB396_402.out _;(with_reducible repeat first|refine zl_ ?_ _|refine zr_ ?_|refine zk_ ?_ _);refine blk_far ?_ NB396_402.out _;(with_reducible repeat first|refine zl_ ?_ _|refine zr_ ?_|refine zk_ ?_ _);exact BK396.out⟩,⟨zG_⟩⟩
   rw [if_pos c13] at H
   have c13b0 : (((rd_T147 l0_0 x14_1).f0) == 2) = true:=beq_iff_eq.mpr c13
   have c13b1 : (((rd_T147 l0_0 x14_1).f0) != 2) = false:=bne_eq_false_iff_eq.mpr c13
   clear c13
   by_cases c14 : x3_1.length < 8796093022208
   rotate_left
   ·rw [if_neg c14] at H
    cases H
   rw [if_pos c14] at H
   have LMc14:=zm_ c14
   clear c14
   obtain ⟨y403,hy403⟩ : ∃ y_ : List ByteArray,y_ = (x3_1 ++ [(rd_T147 l0_0 x14_1).f2]):=⟨_,rfl⟩
   replace H : (impl_FreeOf.l0 k1 y403 l0_0 (l0_0.length : Int) (wrap64 (x14_1 + 1))) = some r:=by first|(rw [hy403];with_reducible exact H)|(have H2_:=(Option.bind_some _ _).symm.trans H;rw [hy403];with_reducible exact H2_)|(have H2_:=(Option.bind_some _ _).symm.trans H;with_reducible exact H2_)|with_reducible exact H|(rw [hy403];exact H)|exact H
   have Ny403:=zm_ hy403
   clear hy403
   have H':=zm_ H
   clear H
   have p401 : 0 ≤ (x14_1 : Int):=zo_
   have q401 : x14_1 < (l0_0.length : Int):=zo_
   obtain ⟨ad401,A401_3,c401_3,e401,hx401_0,hx401_1,hx401_2,hx401_3,hl401_3,hi401_3⟩:=at_T147 HR0_0.out x14_1 p401 q401
   cases e401
   replace hx401_0:=(HB.out.cell (zb_ w _ hx401_0)).trans hx401_0
   replace hx401_1:=(HB.out.cell (zb_ w _ hx401_1)).trans hx401_1
   replace hx401_2:=(HB.out.cell (zb_ w _ hx401_2)).trans hx401_2
   replace hx401_3:=(HB.out.cell (zb_ w _ hx401_3)).trans hx401_3
   have HR401_3:=zm_ hi401_3
   have HC401_3:=zm_ hl401_3
   clear hi401_3 hl401_3
   replace p401:=eq_true p401
   replace q401:=eq_true q401
   go_wp2_with (first|((with_reducible refine gate_dst (N:=5) rfl ?_);refine box_event ?hg (N:=5) ?hd (cs:=#[.int .i64 0,.int .i64 0,.string (⟨#[]⟩ : ByteArray),.slice none 0 0]) (t:=147) ?hr ?_;(case hd => rfl);(case hg => rfl);(case hr => first|(go_simp;done)|(go_simp;rfl));intro gb402 hg w15 hbox hb;have n0_:=zm_ (Kd.R_below (by (with_reducible repeat (first|apply Kd.R_alloc|apply Kd.R_drewN|apply Kd.R_drew));exact HO_3.out) hb);have n1_:=zm_ (blk_below (g:=gb396) (o:=.cells #[.slice (some ad401) l0_0.length c0_0] 123 (0,0)) zK_ hb);have n2_:=zm_ (below_step zG_ hb);have n3_:=zm_ (hbox);have n4_:=zm_ ((by rw [hg];exact (below_size zG_) : w.heap.size ≤ gb402));have n5_:=zm_ ((by rw [hg];exact (below_size zG_) : w.heap.size ≤ gb402));have n6_:=zm_ ((by rw [hg];exact Nat.ne_of_lt (blk_lt (g:=gb396) (o:=.cells #[.slice (some ad401) l0_0.length c0_0] 123 (0,0)) zK_) : gb396 ≠ gb402));have n7_:=zm_ ((by rw [hg];exact Nat.ne_of_gt (blk_lt (g:=gb396) (o:=.cells #[.slice (some ad401) l0_0.length c0_0] 123 (0,0)) zK_) : gb402 ≠ gb396));clear HO_3;clear BK396;clear HB;have HO_3:=n0_;have BK396:=n1_;have HB:=n2_;have BK402:=n3_;have GW402:=n4_;have GE402:=n5_;have NB396_402:=n6_;have NB402_396:=n7_;clear n0_ n1_ n2_ n3_ n4_ n5_ n6_ n7_;clear hb hbox hg;have hnb16:=NB402_396.out;have hnc16:=NB396_402.out;have hcz17_0 : w15.cell? ⟨gb402,0,none⟩ = some (.int .i64 0):=(zc_ BK402.out 0).trans rfl;have hcz17_1 : w15.cell? ⟨gb402,1,none⟩ = some (.int .i64 0):=(zc_ BK402.out 1).trans rfl;have hcz17_2 : w15.cell? ⟨gb402,2,none⟩ = some (.string (⟨#[]⟩ : ByteArray)):=(zc_ BK402.out 2).trans rfl;have hcz17_3 : w15.cell? ⟨gb402,3,none⟩ = some (.slice none 0 0):=(zc_ BK402.out 3).trans rfl;have hfz17_0:=zf_ BK402.out 0;have hfz17_1:=zf_ BK402.out 1;have hfz17_2:=zf_ BK402.out 2;have hfz17_3:=zf_ BK402.out 3)|((with_reducible refine gate_builtin (b:=.append) (xs:=#[.tmp 21,.tmp 24]) rfl ?_);at_builtin;refine Kd.R_append Kd.string (w0:=w) w.heap.size rfl (.tmp 21) (.tmp 24) 46 9 (.string ⟨#[]⟩) 16 rfl Tryz.underlying46 info9 rfl (by decide) (by omega) u3 x3_1 ((rd_T147 l0_0 x14_1).f2) [.string ((rd_T147 l0_0 x14_1).f2)] (fun _ => True) (fun _ => False) rfl (by first|(go_simp;done)|(go_simp;rfl)) ?aP (fun _ hk => hk.elim) ?aF ?aO ?aB ?aS ?aL ?_;(case aP => exact rfl);(case aB => exact zG_);(case aF => exact (fun _ _ => trivial));(case aO => exact (by (with_reducible repeat (first|apply Kd.R_alloc|apply Kd.R_drewN|apply Kd.R_drew));exact Kd.R_mono (Kd.R_far (p:=⟨gb402,3,none⟩) (Kd.R_far (p:=⟨gb402,2,none⟩) (Kd.R_far (p:=⟨gb402,1,none⟩) (Kd.R_far (p:=⟨gb402,0,none⟩) (Kd.R_types HO_3.out BK402.out (by decide)) (fun _ hk => hk.2) (.int .i64 ((rd_T147 l0_0 x14_1).f0))) (fun _ hk => hk.2) (.int .i64 ((rd_T147 l0_0 x14_1).f1))) (fun _ hk => hk.2) (.string ((rd_T147 l0_0 x14_1).f2))) (fun _ hk => hk.2) (.slice A401_3 ((rd_T147 l0_0 x14_1).f3).length c401_3)) (fun _ hk => trivial)));(case aS => exact (below_size zG_));(case aL => have:=LMc14.out;omega);intro v404 w18 ho hb hg hat;rw [← Ny403.out] at ho;have n0_:=zm_ (blk_grown (g:=gb396) (o:=.cells #[.slice (some ad401) l0_0.length c0_0] 123 (0,0)) (by (with_reducible repeat first|refine zl_ ?_ _|refine zr_ ?_|refine zk_ ?_ _);refine blk_far ?_ NB396_402.out _;(with_reducible repeat first|refine zl_ ?_ _|refine zr_ ?_|refine zk_ ?_ _);refine blk_far ?_ NB396_402.out _;(with_reducible repeat first|refine zl_ ?_ _|refine zr_ ?_|refine zk_ ?_ _);refine blk_far ?_ NB396_402.out _;(with_reducible repeat first|refine zl_ ?_ _|refine zr_ ?_|refine zk_ ?_ _);refine blk_far ?_ NB396_402.out _;(with_reducible repeat first|refine zl_ ?_ _|refine zr_ ?_|refine zk_ ?_ _);exact BK396.out) hg (Kd.R_ne HO_3.out BK396.out (by decide)));have n1_:=zm_ (blk_grown (g:=gb402) (o:=.cells #[.int .i64 ((rd_T147 l0_0 x14_1).f0),.int .i64 ((rd_T147 l0_0 x14_1).f1),.string ((rd_T147 l0_0 x14_1).f2),.slice A401_3 ((rd_T147 l0_0 x14_1).f3).length c401_3] 147 (0,0)) (by (with_reducible repeat first|refine zl_ ?_ _|refine zr_ ?_|refine zk_ ?_ _);refine blk_put (cs:=#[.int .i64 ((rd_T147 l0_0 x14_1).f0),.int .i64 ((rd_T147 l0_0 x14_1).f1),.string ((rd_T147 l0_0 x14_1).f2),.slice none 0 0]) ?_ 3 _ rfl;(with_reducible repeat first|refine zl_ ?_ _|refine zr_ ?_|refine zk_ ?_ _);refine blk_put (cs:=#[.int .i64 ((rd_T147 l0_0 x14_1).f0),.int .i64 ((rd_T147 l0_0 x14_1).f1),.string (⟨#[]⟩ : ByteArray),.slice none 0 0]) ?_ 2 _ rfl;(with_reducible repeat first|refine zl_ ?_ _|refine zr_ ?_|refine zk_ ?_ _);refine blk_put (cs:=#[.int .i64 ((rd_T147 l0_0 x14_1).f0),.int .i64 0,.string (⟨#[]⟩ : ByteArray),.slice none 0 0]) ?_ 1 _ rfl;(with_reducible repeat first|refine zl_ ?_ _|refine zr_ ?_|refine zk_ ?_ _);refine blk_put (cs:=#[.int .i64 0,.int .i64 0,.string (⟨#[]⟩ : ByteArray),.slice none 0 0]) ?_ 0 _ rfl;(with_reducible repeat first|refine zl_ ?_ _|refine zr_ ?_|refine zk_ ?_ _);exact BK402.out) hg (Kd.R_ne HO_3.out BK402.out (by decide)));have n2_:=zm_ (hb);have n3_:=zm_ (ho);clear BK396;clear BK402;clear HB;clear HO_3;have BK396:=n0_;have BK402:=n1_;have HB:=n2_;have HO405:=n3_;clear n0_ n1_ n2_ n3_;clear ho hb hg hat))
   go_roundg k1
   case measure => have:=HK1.out;omega
   case rel => exact ⟨(y403),(wrap64 (x14_1 + 1)),zV_,H',⟨by have:=HK1.out;omega⟩,⟨zO_⟩,⟨zK_⟩,⟨zG_⟩⟩
def slices_Index_string_string.l0 : Nat → List ByteArray → ByteArray → Int → Int → Option (Int)
 |0,_,_,_,_ => none
 |k + 1,x0,x1,x7,x8 => if x8 < x7 then (if 0 ≤ x8 then (if x8 < (x0.length : Int) then (if x1.toList = (rdOf ByteArray.empty x0 x8).toList then (some x8) else (slices_Index_string_string.l0 k x0 x1 x7 (wrap64 (x8 + 1)))) else (none)) else (none)) else (some (-1))
def slices_Index_string_string.f (k : Nat) (l0 : List ByteArray) (a1 : ByteArray) : Option (Int):=slices_Index_string_string.l0 k l0 a1 (l0.length : Int) 0
theorem slices_Index_string_string.calls (k : Nat) (A0 : Option Addr) (c0 : Nat) (l0 : List ByteArray) (a1 : ByteArray) (r : Int) (w : World) (hr0 : Kd.C Kd.string w A0 l0.length l0) (hc0 : l0.length ≤ c0) (h : slices_Index_string_string.f k l0 a1 = some r) :
  Calls Tryz.prog 125 #[.slice A0 l0.length c0,.string a1] w fun e w' => e = .returned (.int .i64 r) ∧ Drawn0 w w':=by
 have HR0:=zm_ hr0
 have HC0:=zm_ hc0
 clear hr0 hc0
 have H : (slices_Index_string_string.l0 k l0 a1 (l0.length : Int) 0) = some r:=h
 clear h
 have H':=zm_ H
 clear H
 go_enter Tryz.func125,Tryz.ntmps125
 go_wp2
 go_loopg [8] k (fun kq v8 w' => ∃ (x8_1 : Int),v8 = .int .i64 x8_1 ∧ Aside0 (slices_Index_string_string.l0 kq l0 a1 (l0.length : Int) x8_1 = some r) ∧ Aside0 (kq ≤ k) ∧ Drawn0 w w')
 case atStart => exact ⟨(0),zV_,H',⟨Nat.le_refl _⟩,by repeat (first|exact Drawn0.refl _|apply Drawn0.step)⟩
 case round =>
  clear H'
  obtain ⟨x8_1,rfl,HA,HK1,⟨m1,rfl⟩⟩:=hrel
  cases gk with
  |zero => exact absurd HA.out (by simp [slices_Index_string_string.l0])
  |succ k1 =>
   have H:=HA.out
   clear HA
   simp only [slices_Index_string_string.l0] at H
   by_cases c3 : x8_1 < (l0.length : Int)
   rotate_left
   ·rw [if_neg c3] at H
    have c3b0:=decide_eq_false c3
    clear c3
    obtain rfl:=zi_ H
    go_wp2
    go_ret
    exact zX_


   rw [if_pos c3] at H
   have c3b0:=decide_eq_true c3
   clear c3
   by_cases c4 : 0 ≤ x8_1
   rotate_left
   ·rw [if_neg c4] at H
    cases H
   rw [if_pos c4] at H
   have c4b0:=decide_eq_true c4
   clear c4
   by_cases c5 : x8_1 < (l0.length : Int)
   rotate_left
   ·rw [if_neg c5] at H
    cases H
   rw [if_pos c5] at H
   have c5b0:=decide_eq_true c5
   clear c5
   by_cases c6 : a1.toList = (rdOf ByteArray.empty l0 x8_1).toList
   ·rw [if_pos c6] at H
    have c6b0 : (a1.toList == (rdOf ByteArray.empty l0 x8_1).toList) = true:=beq_iff_eq.mpr c6
    have c6b1 : (a1.toList != (rdOf ByteArray.empty l0 x8_1).toList) = false:=bne_eq_false_iff_eq.mpr c6
    clear c6
    obtain rfl:=zi_ H
    have p410 : 0 ≤ (x8_1 : Int):=zo_
    have q410 : x8_1 < (l0.length : Int):=zo_
    obtain ⟨ad410,e410,hx410_0⟩:=Kd.at_string HR0.out x8_1 p410 q410
    cases e410
    replace p410:=eq_true p410
    replace q410:=eq_true q410
    go_wp2
    go_ret
    exact zX_
   rw [if_neg c6] at H
   have c6b0 : (a1.toList == (rdOf ByteArray.empty l0 x8_1).toList) = false:=beq_eq_false_iff_ne.mpr c6
   have c6b1 : (a1.toList != (rdOf ByteArray.empty l0 x8_1).toList) = true:=bne_iff_ne.mpr c6
   have H':=zm_ H
   clear H
   have p410 : 0 ≤ (x8_1 : Int):=zo_
   have q410 : x8_1 < (l0.length : Int):=zo_
   obtain ⟨ad410,e410,hx410_0⟩:=Kd.at_string HR0.out x8_1 p410 q410
   cases e410
   replace p410:=eq_true p410
   replace q410:=eq_true q410
   go_wp2
   go_roundg k1
   case measure => have:=HK1.out;omega
   case rel => exact ⟨(wrap64 (x8_1 + 1)),zV_,H',⟨by have:=HK1.out;omega⟩,by repeat (first|exact Drawn0.refl _|apply Drawn0.step)⟩
def slices_Contains_string_string.f (k : Nat) (l0 : List ByteArray) (a1 : ByteArray) : Option (Bool):=(slices_Index_string_string.f k l0 a1).bind fun t411 => (some (decide (t411 ≥ 0)))
theorem slices_Contains_string_string.calls (k : Nat) (A0 : Option Addr) (c0 : Nat) (l0 : List ByteArray) (a1 : ByteArray) (r : Bool) (w : World) (hr0 : Kd.C Kd.string w A0 l0.length l0) (hc0 : l0.length ≤ c0) (h : slices_Contains_string_string.f k l0 a1 = some r) :
  Calls Tryz.prog 100 #[.slice A0 l0.length c0,.string a1] w fun e w' => e = .returned (.bool r) ∧ Drawn0 w w':=by
 have HR0:=zm_ hr0
 have HC0:=zm_ hc0
 clear hr0 hc0
 have H : ((slices_Index_string_string.f k l0 a1).bind fun t411 => (some (decide (t411 ≥ 0)))) = some r:=h
 clear h
 obtain ⟨t411,A3,H⟩:=zJ_ H
 try dsimp only at H
 obtain rfl:=zi_ H
 go_enter Tryz.func100,Tryz.ntmps100
 go_wp2_with (first|((with_reducible refine gate_callee (f:=125) rfl ?_);refine goesL_ (some 7) rfl rfl Tryz.func125 (by kernel_rfl) rfl #[.slice A0 l0.length c0,.string a1] rfl zq_ ?_;(with_reducible refine (slices_Index_string_string.calls k _ _ l0 a1 t411 _ ?side1 ?side2 A3.out).mono ?_);(case side1 => exact zC_);(case side2 => exact HC0.out);rintro e w' ⟨rfl,⟨nd,rfl⟩⟩;refine ⟨_,rfl,?_⟩))
 go_ret
 exact zX_

mutual
def impl_argsKnown.l0 : Nat → List ByteArray → List (S123) → Int → Int → Option (Bool)
 |0,_,_,_,_ => none
 |k + 1,x1,x9,x10,x11 => if x11 < x10 then (if 0 ≤ x11 then (if x11 < (x9.length : Int) then ((impl_FreeOf.f k ((rd_T123 x9 x11).f0)).bind fun t414 => (impl_argsKnown.l1 k x1 x9 x10 x11 t414 (t414.length : Int) 0 ((rd_T123 x9 x11).f0))) else (none)) else (none)) else (some true)
def impl_argsKnown.l1 : Nat → List ByteArray → List (S123) → Int → Int → List ByteArray → Int → Int → List (S147) → Option (Bool)
 |0,_,_,_,_,_,_,_,_ => none
 |k + 1,x1,x9,x10,x11,x16,x17,x18,x414000 => if x18 < x17 then (if 0 ≤ x18 then (if x18 < (x16.length : Int) then ((slices_Contains_string_string.f k x1 (rdOf ByteArray.empty x16 x18)).bind fun t418 => (if t418 = true then (impl_argsKnown.l1 k x1 x9 x10 x11 x16 x17 (wrap64 (x18 + 1)) x414000) else (some false))) else (none)) else (none)) else ((impl_ExprOk.f k x414000).bind fun t419 => (if t419 = true then (impl_argsKnown.l0 k x1 x9 x10 (wrap64 (x11 + 1))) else (some false)))
end
def impl_argsKnown.f (k : Nat) (l0 : List (S123)) (l1 : List ByteArray) : Option (Bool):=impl_argsKnown.l0 k l1 l0 (l0.length : Int) 0
theorem impl_argsKnown.calls (k : Nat) (A0 : Option Addr) (c0 : Nat) (l0 : List (S123)) (A1 : Option Addr) (c1 : Nat) (l1 : List ByteArray) (r : Bool) (w : World) (hr0 : Kd.C k123 w A0 l0.length l0) (hc0 : l0.length ≤ c0) (hr1 : Kd.C Kd.string w A1 l1.length l1) (hc1 : l1.length ≤ c1) (h : impl_argsKnown.f k l0 l1 = some r) :
  Calls Tryz.prog 75 #[.slice A0 l0.length c0,.slice A1 l1.length c1] w fun e w' => e = .returned (.bool r) ∧ Below w.heap.size w w':=by
 have hu123:=Tryz.underlying123
 have HR0:=zm_ hr0
 have HC0:=zm_ hc0
 clear hr0 hc0
 have HR1:=zm_ hr1
 have HC1:=zm_ hc1
 clear hr1 hc1
 have HB:=zm_ (Below.refl w.heap.size w)
 have H : (impl_argsKnown.l0 k l1 l0 (l0.length : Int) 0) = some r:=h
 clear h
 have H':=zm_ H
 clear H
 go_enter Tryz.func75,Tryz.ntmps75
 go_wp2
 go_loopg [11] k (fun kq v11 w' => ∃ (x11_1 : Int),v11 = .int .i64 x11_1 ∧ Aside0 (impl_argsKnown.l0 kq l1 l0 (l0.length : Int) x11_1 = some r) ∧ Aside0 (kq ≤ k) ∧ Aside0 (Below w.heap.size w w'))
 case atStart => exact ⟨(0),zV_,H',⟨Nat.le_refl _⟩,⟨zG_⟩⟩
 case round =>
  clear H'
  obtain ⟨x11_1,rfl,HA,HK1,HB⟩:=hrel
  cases gk with
  |zero => exact absurd HA.out (by simp [impl_argsKnown.l0])
  |succ k1 =>
   have H:=HA.out
   clear HA
   simp only [impl_argsKnown.l0] at H
   by_cases c3 : x11_1 < (l0.length : Int)
   rotate_left
   ·rw [if_neg c3] at H
    have c3b0:=decide_eq_false c3
    clear c3
    obtain rfl:=zi_ H
    go_wp2
    go_ret
    exact ⟨zE_,zG_⟩


   rw [if_pos c3] at H
   have c3b0:=decide_eq_true c3
   clear c3
   by_cases c4 : 0 ≤ x11_1
   rotate_left
   ·rw [if_neg c4] at H
    cases H
   rw [if_pos c4] at H
   have c4b0:=decide_eq_true c4
   clear c4
   by_cases c5 : x11_1 < (l0.length : Int)
   rotate_left
   ·rw [if_neg c5] at H
    cases H
   rw [if_pos c5] at H
   have c5b0:=decide_eq_true c5
   clear c5
   obtain ⟨t414,A6,H⟩:=zJ_ H
   try dsimp only at H
   have H':=zm_ H
   clear H
   have p412 : 0 ≤ (x11_1 : Int):=zo_
   have q412 : x11_1 < (l0.length : Int):=zo_
   obtain ⟨ad412,A412_0,c412_0,e412,hx412_0,hl412_0,hi412_0⟩:=at_T123 HR0.out x11_1 p412 q412
   cases e412
   replace hx412_0:=(HB.out.cell (zb_ w _ hx412_0)).trans hx412_0
   have HR412_0:=zm_ hi412_0
   have HC412_0:=zm_ hl412_0
   clear hi412_0 hl412_0
   replace p412:=eq_true p412
   replace q412:=eq_true q412
   go_wp2_with (first|((with_reducible refine gate_dst (N:=6) rfl ?_);refine box_event ?hg (N:=6) ?hd (cs:=#[.slice none 0 0]) (t:=123) ?hr ?_;(case hd => rfl);(case hg => rfl);(case hr => first|(go_simp;done)|(go_simp;rfl));intro gb413 hg w7 hbox hb;have n0_:=zm_ (below_step zB_ hb);have n1_:=zm_ (hbox);have n2_:=zm_ ((by rw [hg];exact (below_size zB_) : w.heap.size ≤ gb413));have n3_:=zm_ ((by rw [hg];exact (below_size zB_) : w.heap.size ≤ gb413));clear HB;have HB:=n0_;have BK413:=n1_;have GW413:=n2_;have GE413:=n3_;clear n0_ n1_ n2_ n3_;clear hb hbox hg;have hcz8_0 : w7.cell? ⟨gb413,0,none⟩ = some (.slice none 0 0):=(zc_ BK413.out 0).trans rfl;have hfz8_0:=zf_ BK413.out 0)|((with_reducible refine gate_callee (f:=99) rfl ?_);refine goesL_ (some 16) rfl rfl Tryz.func99 (by kernel_rfl) rfl #[.agg #[.slice A412_0 ((rd_T123 l0 x11_1).f0).length c412_0]] rfl zq_ ?_;(with_reducible refine (impl_FreeOf.calls k1 _ _ ((rd_T123 l0 x11_1).f0) t414 _ ?side1 ?side2 A6.out).mono ?_);(case side1 => exact Kd.C_below HR412_0.out zG_);(case side2 => exact HC412_0.out);rintro e w9 ⟨v415,rfl,ho0,hb⟩;refine ⟨_,rfl,?_⟩;have n0_:=zm_ (Kd.R_lower ho0 (below_size zG_));have n1_:=zm_ (blk_below (g:=gb413) (o:=.cells #[.slice A412_0 ((rd_T123 l0 x11_1).f0).length c412_0] 123 (0,0)) (by (with_reducible repeat first|refine zl_ ?_ _|refine zr_ ?_|refine zk_ ?_ _);refine blk_put (cs:=#[.slice none 0 0]) ?_ 0 _ rfl;(with_reducible repeat first|refine zl_ ?_ _|refine zr_ ?_|refine zk_ ?_ _);exact BK413.out) hb);have n2_:=zm_ (below_step zG_ hb);clear BK413;clear HB;have HO416:=n0_;have BK413:=n1_;have HB:=n2_;clear n0_ n1_ n2_;(try clear hb);(try clear hb2);(try clear hk);(try clear hi);(try clear ho0);obtain ⟨Ao10,co10,eo10⟩:=Kd.R_slice HO416.out;subst eo10))
   go_loopg [18] k1 (fun kq v18 w' => ∃ (x18_2 : Int),v18 = .int .i64 x18_2 ∧ Aside0 (impl_argsKnown.l1 kq l1 l0 (l0.length : Int) x11_1 t414 (t414.length : Int) x18_2 ((rd_T123 l0 x11_1).f0) = some r) ∧ Aside0 (kq ≤ k1) ∧ Aside0 (Kd.R Kd.string 9 w' w.heap.size (fun _ => True) (.slice Ao10 t414.length co10) t414) ∧ Aside0 (w'.heap[gb413]? = some (.cells #[(.slice A412_0 ((rd_T123 l0 x11_1).f0).length c412_0)] 123 (0,0))) ∧ Aside0 (Below w.heap.size w w'))
   case atStart => exact ⟨(0),zV_,H',⟨Nat.le_refl _⟩,⟨zO_⟩,⟨zK_⟩,⟨zG_⟩⟩
   case round =>
    clear H'
    obtain ⟨x18_2,rfl,HA,HK2,HO_16,BK413,HB⟩:=hrel
    cases gk with
    |zero => exact absurd HA.out (by simp [impl_argsKnown.l1])
    |succ k2 =>
     have H:=HA.out
     clear HA
     simp only [impl_argsKnown.l1] at H
     by_cases c11 : x18_2 < (t414.length : Int)
     ·rw [if_pos c11] at H
      have c11b0:=decide_eq_true c11
      clear c11
      by_cases c12 : 0 ≤ x18_2
      rotate_left
      ·rw [if_neg c12] at H
       cases H
      rw [if_pos c12] at H
      have c12b0:=decide_eq_true c12
      clear c12
      by_cases c13 : x18_2 < (t414.length : Int)
      rotate_left
      ·rw [if_neg c13] at H
       cases H
      rw [if_pos c13] at H
      have c13b0:=decide_eq_true c13
      clear c13
      obtain ⟨t418,A14,H⟩:=zJ_ H
      try dsimp only at H
      by_cases c15 : t418 = true
      rotate_left
      ·replace c15:=Bool.eq_false_iff.mpr c15
       subst c15
       rw [zF_] at H
       obtain rfl:=zi_ H
       have p417 : 0 ≤ (x18_2 : Int):=zo_
       have q417 : x18_2 < (t414.length : Int):=zo_
       obtain ⟨ad417,e417,hx417_0⟩:=Kd.at_string (Kd.R_reads' HO_16.out).2.2 x18_2 p417 q417
       cases e417
       replace p417:=eq_true p417
       replace q417:=eq_true q417
       go_wp2_with (first|((with_reducible refine gate_callee (f:=100) rfl ?_);refine goesL_ (some 24) rfl rfl Tryz.func100 (by kernel_rfl) rfl #[.slice A1 l1.length c1,.string (rdOf ByteArray.empty t414 x18_2)] rfl zq_ ?_;(with_reducible refine (slices_Contains_string_string.calls k2 _ _ l1 (rdOf ByteArray.empty t414 x18_2) false _ ?side1 ?side2 A14.out).mono ?_);(case side1 => exact zP_);(case side2 => exact HC1.out);rintro e w' ⟨rfl,⟨nd,rfl⟩⟩;refine ⟨_,rfl,?_⟩))
       go_ret
       exact ⟨zE_,zG_⟩
      subst c15
      rw [if_pos rfl] at H
      have H':=zm_ H
      clear H
      have p417 : 0 ≤ (x18_2 : Int):=zo_
      have q417 : x18_2 < (t414.length : Int):=zo_
      obtain ⟨ad417,e417,hx417_0⟩:=Kd.at_string (Kd.R_reads' HO_16.out).2.2 x18_2 p417 q417
      cases e417
      replace p417:=eq_true p417
      replace q417:=eq_true q417
      go_wp2_with (first|((with_reducible refine gate_callee (f:=100) rfl ?_);refine goesL_ (some 24) rfl rfl Tryz.func100 (by kernel_rfl) rfl #[.slice A1 l1.length c1,.string (rdOf ByteArray.empty t414 x18_2)] rfl zq_ ?_;(with_reducible refine (slices_Contains_string_string.calls k2 _ _ l1 (rdOf ByteArray.empty t414 x18_2) true _ ?side1 ?side2 A14.out).mono ?_);(case side1 => exact zP_);(case side2 => exact HC1.out);rintro e w' ⟨rfl,⟨nd,rfl⟩⟩;refine ⟨_,rfl,?_⟩))
      go_roundg k2
      case measure => have:=HK1.out;have:=HK2.out;omega
      case rel => exact ⟨(wrap64 (x18_2 + 1)),zV_,H',⟨by have:=HK1.out;have:=HK2.out;omega⟩,⟨zO_⟩,⟨zK_⟩,⟨zG_⟩⟩
     rw [if_neg c11] at H
     have c11b0:=decide_eq_false c11
     clear c11
     obtain ⟨t419,A16,H⟩:=zJ_ H
     try dsimp only at H
     by_cases c17 : t419 = true
     rotate_left
     ·replace c17:=Bool.eq_false_iff.mpr c17
      subst c17
      rw [zF_] at H
      obtain rfl:=zi_ H
      have hcz20_0 : wr.cell? ⟨gb413,0,none⟩ = some (.slice A412_0 ((rd_T123 l0 x11_1).f0).length c412_0):=(zc_ BK413.out 0).trans rfl
      have hfz20_0:=zf_ BK413.out 0
      go_wp2_with (first|((with_reducible refine gate_callee (f:=101) rfl ?_);refine goesL_ (some 28) rfl rfl Tryz.func101 (by kernel_rfl) rfl #[.agg #[.slice A412_0 ((rd_T123 l0 x11_1).f0).length c412_0]] rfl zq_ ?_;(with_reducible refine (impl_ExprOk.calls k2 _ _ ((rd_T123 l0 x11_1).f0) false _ ?side1 ?side2 A16.out).mono ?_);(case side1 => exact zP_);(case side2 => exact HC412_0.out);rintro e w21 ⟨rfl,hb⟩;refine ⟨_,rfl,?_⟩;have n0_:=zm_ (Kd.R_below (by (with_reducible repeat (first|apply Kd.R_alloc|apply Kd.R_drewN|apply Kd.R_drew));exact HO_16.out) hb);have n1_:=zm_ (blk_below (g:=gb413) (o:=.cells #[.slice A412_0 ((rd_T123 l0 x11_1).f0).length c412_0] 123 (0,0)) zK_ hb);have n2_:=zm_ (below_step zG_ hb);clear HO_16;clear BK413;clear HB;have HO_16:=n0_;have BK413:=n1_;have HB:=n2_;clear n0_ n1_ n2_;(try clear hb)))
      go_ret
      exact ⟨zE_,zG_⟩
     subst c17
     rw [if_pos rfl] at H
     have H':=zm_ H
     clear H
     have hcz18_0 : wr.cell? ⟨gb413,0,none⟩ = some (.slice A412_0 ((rd_T123 l0 x11_1).f0).length c412_0):=(zc_ BK413.out 0).trans rfl
     have hfz18_0:=zf_ BK413.out 0
     go_wp2_with (first|((with_reducible refine gate_callee (f:=101) rfl ?_);refine goesL_ (some 28) rfl rfl Tryz.func101 (by kernel_rfl) rfl #[.agg #[.slice A412_0 ((rd_T123 l0 x11_1).f0).length c412_0]] rfl zq_ ?_;(with_reducible refine (impl_ExprOk.calls k2 _ _ ((rd_T123 l0 x11_1).f0) true _ ?side1 ?side2 A16.out).mono ?_);(case side1 => exact zP_);(case side2 => exact HC412_0.out);rintro e w19 ⟨rfl,hb⟩;refine ⟨_,rfl,?_⟩;have n0_:=zm_ (Kd.R_below (by (with_reducible repeat (first|apply Kd.R_alloc|apply Kd.R_drewN|apply Kd.R_drew));exact HO_16.out) hb);have n1_:=zm_ (blk_below (g:=gb413) (o:=.cells #[.slice A412_0 ((rd_T123 l0 x11_1).f0).length c412_0] 123 (0,0)) zK_ hb);have n2_:=zm_ (below_step zG_ hb);clear HO_16;clear BK413;clear HB;have HO_16:=n0_;have BK413:=n1_;have HB:=n2_;clear n0_ n1_ n2_;(try clear hb)))
     go_roundg k2
     case measure => have:=HK1.out;have:=HK2.out;omega
     case rel => exact ⟨(wrap64 (x11_1 + 1)),zV_,H',⟨by have:=HK1.out;have:=HK2.out;omega⟩,⟨zG_⟩⟩
def impl_bindOk.f (k : Nat) (a0 : ByteArray) (l1 : List ByteArray) : Option (Bool):=if a0.toList = ([] : List UInt8) then (some true) else ((impl_VarName.f k a0).bind fun t420 => (if t420 = true then ((slices_Contains_string_string.f k l1 a0).bind fun t421 => (if t421 = true then (some false) else (some (decide ((l1.length : Int) < 6))))) else (some false)))
theorem impl_bindOk.calls (k : Nat) (a0 : ByteArray) (A1 : Option Addr) (c1 : Nat) (l1 : List ByteArray) (r : Bool) (w : World) (hr1 : Kd.C Kd.string w A1 l1.length l1) (hc1 : l1.length ≤ c1) (h : impl_bindOk.f k a0 l1 = some r) :
  Calls Tryz.prog 76 #[.string a0,.slice A1 l1.length c1] w fun e w' => e = .returned (.bool r) ∧ Drawn0 w w':=by
 have HR1:=zm_ hr1
 have HC1:=zm_ hc1
 clear hr1 hc1
 have H : (if a0.toList = ([] : List UInt8) then (some true) else ((impl_VarName.f k a0).bind fun t420 => (if t420 = true then ((slices_Contains_string_string.f k l1 a0).bind fun t421 => (if t421 = true then (some false) else (some (decide ((l1.length : Int) < 6))))) else (some false)))) = some r:=h
 clear h
 by_cases c3 : a0.toList = ([] : List UInt8)
 ·rw [if_pos c3] at H
  have c3b0 : (a0.toList == ([] : List UInt8)) = true:=beq_iff_eq.mpr c3
  have c3b1 : (a0.toList != ([] : List UInt8)) = false:=bne_eq_false_iff_eq.mpr c3
  clear c3
  obtain rfl:=zi_ H
  go_enter Tryz.func76,Tryz.ntmps76
  go_wp2
  go_ret
  exact zX_
 rw [if_neg c3] at H
 have c3b0 : (a0.toList == ([] : List UInt8)) = false:=beq_eq_false_iff_ne.mpr c3
 have c3b1 : (a0.toList != ([] : List UInt8)) = true:=bne_iff_ne.mpr c3
 obtain ⟨t420,A4,H⟩:=zJ_ H
 try dsimp only at H
 by_cases c5 : t420 = true
 rotate_left
 ·replace c5:=Bool.eq_false_iff.mpr c5
  subst c5
  rw [zF_] at H
  obtain rfl:=zi_ H
  go_enter Tryz.func76,Tryz.ntmps76
  go_wp2_with (first|(go_at_call 42;(with_reducible refine (impl_VarName.calls k a0 false _ A4.out).mono ?_);rintro e w' ⟨rfl,⟨nd,rfl⟩⟩))
  go_ret
  exact zX_


 subst c5
 rw [if_pos rfl] at H
 obtain ⟨t421,A6,H⟩:=zJ_ H
 try dsimp only at H
 by_cases c7 : t421 = true
 ·subst c7
  rw [if_pos rfl] at H
  obtain rfl:=zi_ H
  go_enter Tryz.func76,Tryz.ntmps76
  go_wp2_with (first|(go_at_call 42;(with_reducible refine (impl_VarName.calls k a0 true _ A4.out).mono ?_);rintro e w' ⟨rfl,⟨nd,rfl⟩⟩)|(go_at_call 100;(with_reducible refine (slices_Contains_string_string.calls k _ _ l1 a0 true _ ?side1 ?side2 A6.out).mono ?_);(case side1 => repeat (first|exact HR1.out|(with_reducible refine Kd.C_alloc ?_ _)|(with_reducible refine Kd.C_drewN ?_ _)|(with_reducible refine Kd.C_drew ?_)));(case side2 => exact HC1.out);rintro e w' ⟨rfl,⟨nd,rfl⟩⟩))
  go_ret
  exact zX_
 replace c7:=Bool.eq_false_iff.mpr c7
 subst c7
 rw [zF_] at H
 obtain rfl:=zi_ H
 go_enter Tryz.func76,Tryz.ntmps76
 go_wp2_with (first|(go_at_call 42;(with_reducible refine (impl_VarName.calls k a0 true _ A4.out).mono ?_);rintro e w' ⟨rfl,⟨nd,rfl⟩⟩)|(go_at_call 100;(with_reducible refine (slices_Contains_string_string.calls k _ _ l1 a0 false _ ?side1 ?side2 A6.out).mono ?_);(case side1 => repeat (first|exact HR1.out|(with_reducible refine Kd.C_alloc ?_ _)|(with_reducible refine Kd.C_drewN ?_ _)|(with_reducible refine Kd.C_drew ?_)));(case side2 => exact HC1.out);rintro e w' ⟨rfl,⟨nd,rfl⟩⟩))
 go_ret
 exact zX_
end Go.Proofs.YtkbgmojomgelbaaGreat.MFnExactGrammarOk
