import Derived.Test.YtkbgmojomgelbaaGreatMFnExactGrammarOkx0
import Derived.Test.YtkbgmojomgelbaaGreatMFnExactGrammarOkx13
import Derived.Test.YtkbgmojomgelbaaGreatMFnExactGrammarOkx17
namespace Go.Proofs.YtkbgmojomgelbaaGreat.MFnExactGrammarOk
open Go.RowKit Go.Proofs.YtkbgmojomgelbaaGreatW.PrintWords Go.Proofs.YtkbgmojomgelbaaGreatW.PrintLast Go.Proofs.YtkbgmojomgelbaaGreatW.PrintMore
attribute [local go_sem] max2_int min2_int max_two min_two max_three min_three max_four min_four
set_option linter.unusedVariables false
set_option linter.unusedSimpArgs false
set_option maxHeartbeats 8000000
set_option maxRecDepth 100000
theorem zt18_15 {p : Prop} (h : p := by rw [hg];exact Nat.ne_of_gt (blk_lt (g:=gb430) (o:=.cells #[.slice (some ad434) l1_0.length c1_0] 57 (0,0)) zK_)) : p := h
theorem zt18_14 {p : Prop} (h : p := by rw [hg];exact Nat.ne_of_lt (blk_lt (g:=gb430) (o:=.cells #[.slice (some ad434) l1_0.length c1_0] 57 (0,0)) zK_)) : p := h
theorem zt18_11 {p : Prop} (h : p := by rw [hg];exact Nat.ne_of_gt (blk_lt (g:=gb429) (o:=.cells #[.slice A0_0 l0_0.length c0_0] 29 (0,0)) zK_)) : p := h
theorem zt18_10 {p : Prop} (h : p := by rw [hg];exact Nat.ne_of_lt (blk_lt (g:=gb429) (o:=.cells #[.slice A0_0 l0_0.length c0_0] 29 (0,0)) zK_)) : p := h
theorem zt18_9 {p : Prop} (h : p := by (with_reducible repeat first|refine zl_ ?_ _|refine zr_ ?_|refine zk_ ?_ _);(repeat (refine blk_far ?_ NB429_435.out _;(with_reducible repeat first|refine zl_ ?_ _|refine zr_ ?_|refine zk_ ?_ _)));exact BK429.out) : p := h
theorem zt18_7 {p : Prop} (h : p := by (with_reducible repeat first|refine zl_ ?_ _|refine zr_ ?_|refine zk_ ?_ _);refine blk_far ?_ NB430_435.out _;(with_reducible repeat first|refine zl_ ?_ _|refine zr_ ?_|refine zk_ ?_ _);refine blk_far ?_ NB430_435.out _;(with_reducible repeat first|refine zl_ ?_ _|refine zr_ ?_|refine zk_ ?_ _);refine blk_far ?_ NB430_435.out _;(with_reducible repeat first|refine zl_ ?_ _|refine zr_ ?_|refine zk_ ?_ _);refine blk_far ?_ NB430_435.out _;(with_reducible repeat first|refine zl_ ?_ _|refine zr_ ?_|refine zk_ ?_ _);exact BK430.out) : p := h
theorem zt18_6 {p : Prop} (h : p := by (with_reducible repeat first|refine zl_ ?_ _|refine zr_ ?_|refine zk_ ?_ _);refine blk_far ?_ NB429_435.out _;(with_reducible repeat first|refine zl_ ?_ _|refine zr_ ?_|refine zk_ ?_ _);refine blk_far ?_ NB429_435.out _;(with_reducible repeat first|refine zl_ ?_ _|refine zr_ ?_|refine zk_ ?_ _);refine blk_far ?_ NB429_435.out _;(with_reducible repeat first|refine zl_ ?_ _|refine zr_ ?_|refine zk_ ?_ _);refine blk_far ?_ NB429_435.out _;(with_reducible repeat first|refine zl_ ?_ _|refine zr_ ?_|refine zk_ ?_ _);exact BK429.out) : p := h
theorem zt18_2 {p : Prop} (h : p := by (with_reducible repeat first|refine zl_ ?_ _|refine zr_ ?_|refine zk_ ?_ _);refine blk_put (cs:=#[.int .i64 ((rd_T76 l1_0 x17_1).f0),.string ((rd_T76 l1_0 x17_1).f1),.slice A434_2 ((rd_T76 l1_0 x17_1).f2).length c434_2,.string (⟨#[]⟩ : ByteArray)]) ?_ 3 _ rfl;(with_reducible repeat first|refine zl_ ?_ _|refine zr_ ?_|refine zk_ ?_ _);refine blk_put (cs:=#[.int .i64 ((rd_T76 l1_0 x17_1).f0),.string ((rd_T76 l1_0 x17_1).f1),.slice none 0 0,.string (⟨#[]⟩ : ByteArray)]) ?_ 2 _ rfl;(with_reducible repeat first|refine zl_ ?_ _|refine zr_ ?_|refine zk_ ?_ _);refine blk_put (cs:=#[.int .i64 ((rd_T76 l1_0 x17_1).f0),.string (⟨#[]⟩ : ByteArray),.slice none 0 0,.string (⟨#[]⟩ : ByteArray)]) ?_ 1 _ rfl;(with_reducible repeat first|refine zl_ ?_ _|refine zr_ ?_|refine zk_ ?_ _);refine blk_put (cs:=#[.int .i64 0,.string (⟨#[]⟩ : ByteArray),.slice none 0 0,.string (⟨#[]⟩ : ByteArray)]) ?_ 0 _ rfl;(with_reducible repeat first|refine zl_ ?_ _|refine zr_ ?_|refine zk_ ?_ _);exact BK435.out) : p := h
theorem zt18_1 {p : Prop} (h : p := by (with_reducible repeat (first|apply Kd.R_alloc|apply Kd.R_drewN|apply Kd.R_drew));exact (Kd.R_mono (Kd.R_far (p:=⟨gb435,3,none⟩) (Kd.R_far (p:=⟨gb435,2,none⟩) (Kd.R_far (p:=⟨gb435,1,none⟩) (Kd.R_far (p:=⟨gb435,0,none⟩) (Kd.R_types HO_7.out BK435.out (by decide)) (fun _ hk => hk.2) (.int .i64 ((rd_T76 l1_0 x17_1).f0))) (fun _ hk => hk.2) (.string ((rd_T76 l1_0 x17_1).f1))) (fun _ hk => hk.2) (.slice A434_2 ((rd_T76 l1_0 x17_1).f2).length c434_2)) (fun _ hk => hk.2) (.string ((rd_T76 l1_0 x17_1).f3))) (fun _ h_ => h_.1))) : p := h

def impl_altOk.l0 (g_ : List (S49)) : Nat → List ByteArray → Int → List (S76) → Int → Int → List (S76) → Option (Bool)
 |0,_,_,_,_,_,_ => none
 |k + 1,x7,x8,x15,x16,x17,x431000 => if x17 < x16 then (if 0 ≤ x17 then (if x17 < (x15.length : Int) then ((impl_symOk.f g_ k ((rd_T76 x15 x17).f0) ((rd_T76 x15 x17).f1) ((rd_T76 x15 x17).f2) ((rd_T76 x15 x17).f3) x7 x8).bind fun t436 => (if t436 = true then (if ((rd_T76 x15 x17).f3).toList = ([] : List UInt8) then (impl_altOk.l0 g_ k x7 x8 x15 x16 (wrap64 (x17 + 1)) x431000) else (if x7.length < 8796093022208 then (impl_altOk.l0 g_ k (x7 ++ [(rd_T76 x15 x17).f3]) x8 x15 x16 (wrap64 (x17 + 1)) x431000) else (none))) else (some false))) else (none)) else (none)) else (some (decide ((x431000.length : Int) ≤ 8)))
def impl_altOk.f (k : Nat) (l0_0 : List (S49)) (l1_0 : List (S76)) (l2 : List ByteArray) : Option (Bool):=(impl_copyTexts.f l2).bind fun t431 => (impl_altOk.l0 l0_0 k t431 0 l1_0 (l1_0.length : Int) 0 l1_0)
theorem impl_altOk.calls (k : Nat) (A0_0 : Option Addr) (c0_0 : Nat) (l0_0 : List (S49)) (A1_0 : Option Addr) (c1_0 : Nat) (l1_0 : List (S76)) (A2 : Option Addr) (c2 : Nat) (l2 : List ByteArray) (r : Bool) (w : World) (hr0_0 : Kd.C k49 w A0_0 l0_0.length l0_0) (hc0_0 : l0_0.length ≤ c0_0) (hr1_0 : Kd.C k76 w A1_0 l1_0.length l1_0) (hc1_0 : l1_0.length ≤ c1_0) (hr2 : Kd.C Kd.string w A2 l2.length l2) (hc2 : l2.length ≤ c2) (h : impl_altOk.f k l0_0 l1_0 l2 = some r) :
  Calls Tryz.prog 24 #[.agg #[.slice A0_0 l0_0.length c0_0],.agg #[.slice A1_0 l1_0.length c1_0],.slice A2 l2.length c2] w fun e w' => e = .returned (.bool r) ∧ Below w.heap.size w w':=by
 have hu29:=Tryz.underlying29
 have hu57:=Tryz.underlying57
 have hu76:=Tryz.underlying76
 have HR0_0:=zm_ hr0_0
 have HC0_0:=zm_ hc0_0
 clear hr0_0 hc0_0
 have HR1_0:=zm_ hr1_0
 have HC1_0:=zm_ hc1_0
 clear hr1_0 hc1_0
 have HR2:=zm_ hr2
 have HC2:=zm_ hc2
 clear hr2 hc2
 have HB:=zm_ (Below.refl w.heap.size w)
 have H : ((impl_copyTexts.f l2).bind fun t431 => (impl_altOk.l0 l0_0 k t431 0 l1_0 (l1_0.length : Int) 0 l1_0)) = some r:=h
 clear h
 obtain ⟨t431,A4,H⟩:=zJ_ H
 try dsimp only at H
 have H':=zm_ H
 clear H
 go_enter Tryz.func24,Tryz.ntmps24
 go_wp2_with (first|((with_reducible refine gate_dst (N:=3) rfl ?_);refine box_event ?hg (N:=3) ?hd (cs:=#[.slice A0_0 l0_0.length c0_0]) (t:=29) ?hr ?_;(case hd => rfl);(case hg => rfl);(case hr => first|(go_simp;done)|(go_simp;rfl));intro gb429 hg w5 hbox hb;have n0_:=zm_ (below_step zB_ hb);have n1_:=zm_ (hbox);have n2_:=zm_ ((by rw [hg];exact (below_size zB_) : w.heap.size ≤ gb429));have n3_:=zm_ ((by rw [hg];exact (below_size zB_) : w.heap.size ≤ gb429));clear HB;have HB:=n0_;have BK429:=n1_;have GW429:=n2_;have GE429:=n3_;clear n0_ n1_ n2_ n3_;clear hb hbox hg)|((with_reducible refine gate_dst (N:=4) rfl ?_);refine box_event ?hg (N:=4) ?hd (cs:=#[.slice A1_0 l1_0.length c1_0]) (t:=57) ?hr ?_;(case hd => rfl);(case hg => rfl);(case hr => first|(go_simp;done)|(go_simp;rfl));intro gb430 hg w6 hbox hb;have n0_:=zm_ (blk_below (g:=gb429) (o:=.cells #[.slice A0_0 l0_0.length c0_0] 29 (0,0)) zK_ hb);have n1_:=zm_ (below_step zG_ hb);have n2_:=zm_ (hbox);have n3_:=zm_ ((by rw [hg];exact (below_size zG_) : w.heap.size ≤ gb430));have n4_:=zm_ ((by rw [hg];exact (below_size zG_) : w.heap.size ≤ gb430));have n5_:=zm_ ((zt18_10 : gb429 ≠ gb430));have n6_:=zm_ ((zt18_11 : gb430 ≠ gb429));clear BK429;clear HB;have BK429:=n0_;have HB:=n1_;have BK430:=n2_;have GW430:=n3_;have GE430:=n4_;have NB429_430:=n5_;have NB430_429:=n6_;clear n0_ n1_ n2_ n3_ n4_ n5_ n6_;clear hb hbox hg)|((with_reducible refine gate_callee (f:=43) rfl ?_);refine goesL_ (some 12) rfl rfl Tryz.func43 (by kernel_rfl) rfl #[.slice A2 l2.length c2] rfl zq_ ?_;(with_reducible refine (impl_copyTexts.calls _ _ l2 t431 _ ?side1 ?side2 A4.out).mono ?_);(case side1 => exact zP_);(case side2 => exact HC2.out);rintro e w7 ⟨v432,rfl,ho0,hb⟩;refine ⟨_,rfl,?_⟩;have n0_:=zm_ (Kd.R_lower ho0 (below_size zG_));have n1_:=zm_ (blk_below (g:=gb429) (o:=.cells #[.slice A0_0 l0_0.length c0_0] 29 (0,0)) zK_ hb);have n2_:=zm_ (blk_below (g:=gb430) (o:=.cells #[.slice A1_0 l1_0.length c1_0] 57 (0,0)) zK_ hb);have n3_:=zm_ (below_step zG_ hb);clear BK429;clear BK430;clear HB;have HO433:=n0_;have BK429:=n1_;have BK430:=n2_;have HB:=n3_;clear n0_ n1_ n2_ n3_;(try clear hb);(try clear hb2);(try clear hk);(try clear hi);(try clear ho0);have hnb8:=NB430_429.out;have hnc8:=NB429_430.out;have hcz9_0 : w7.cell? ⟨gb430,0,none⟩ = some (.slice A1_0 l1_0.length c1_0):=(zc_ BK430.out 0).trans rfl;have hfz9_0:=zf_ BK430.out 0))
 go_loopg [7,17] k (fun kq v7 v17 w' => ∃ (x7_1 : List ByteArray) (x17_1 : Int),v17 = .int .i64 x17_1 ∧ Aside0 (impl_altOk.l0 l0_0 kq x7_1 0 l1_0 (l1_0.length : Int) x17_1 l1_0 = some r) ∧ Aside0 (kq ≤ k) ∧ Aside0 (Kd.R Kd.string 9 w' w.heap.size (fun _ => True) v7 x7_1) ∧ Aside0 (w'.heap[gb429]? = some (.cells #[(.slice A0_0 l0_0.length c0_0)] 29 (0,0))) ∧ Aside0 (w'.heap[gb430]? = some (.cells #[(.slice A1_0 l1_0.length c1_0)] 57 (0,0))) ∧ Aside0 (Below w.heap.size w w'))
 case atStart => exact ⟨(t431),(0),zV_,H',⟨Nat.le_refl _⟩,⟨zO_⟩,⟨zK_⟩,⟨zK_⟩,⟨zG_⟩⟩
 case round =>
  clear H'
  obtain ⟨x7_1,x17_1,rfl,HA,HK1,HO_7,BK429,BK430,HB⟩:=hrel
  cases gk with
  |zero => exact absurd HA.out (by simp [impl_altOk.l0])
  |succ k1 =>
   have H:=HA.out
   clear HA
   simp only [impl_altOk.l0] at H
   by_cases c10 : x17_1 < (l1_0.length : Int)
   rotate_left
   ·rw [if_neg c10] at H
    have c10b0:=decide_eq_false c10
    clear c10
    obtain rfl:=zi_ H
    have hnb38:=NB430_429.out
    have hnc38:=NB429_430.out
    have hcz39_0 : wr.cell? ⟨gb430,0,none⟩ = some (.slice A1_0 l1_0.length c1_0):=(zc_ BK430.out 0).trans rfl
    have hfz39_0:=zf_ BK430.out 0
    go_wp2
    go_ret
    exact ⟨zE_,zG_⟩


   rw [if_pos c10] at H
   have c10b0:=decide_eq_true c10
   clear c10
   by_cases c11 : 0 ≤ x17_1
   rotate_left
   ·rw [if_neg c11] at H
    cases H
   rw [if_pos c11] at H
   have c11b0:=decide_eq_true c11
   clear c11
   by_cases c12 : x17_1 < (l1_0.length : Int)
   rotate_left
   ·rw [if_neg c12] at H
    cases H
   rw [if_pos c12] at H
   have c12b0:=decide_eq_true c12
   clear c12
   obtain ⟨t436,A13,H⟩:=zJ_ H
   try dsimp only at H
   by_cases c14 : t436 = true
   rotate_left
   ·replace c14:=Bool.eq_false_iff.mpr c14
    subst c14
    rw [zF_] at H
    obtain rfl:=zi_ H
    have p434 : 0 ≤ (x17_1 : Int):=zo_
    have q434 : x17_1 < (l1_0.length : Int):=zo_
    obtain ⟨ad434,A434_2,c434_2,e434,hx434_0,hx434_1,hx434_2,hx434_3,hl434_2,hi434_2⟩:=at_T76 HR1_0.out x17_1 p434 q434
    cases e434
    replace hx434_0:=(HB.out.cell (zb_ w _ hx434_0)).trans hx434_0
    replace hx434_1:=(HB.out.cell (zb_ w _ hx434_1)).trans hx434_1
    replace hx434_2:=(HB.out.cell (zb_ w _ hx434_2)).trans hx434_2
    replace hx434_3:=(HB.out.cell (zb_ w _ hx434_3)).trans hx434_3
    have HR434_2:=zm_ hi434_2
    have HC434_2:=zm_ hl434_2
    clear hi434_2 hl434_2
    replace p434:=eq_true p434
    replace q434:=eq_true q434
    go_wp2_with (first|((with_reducible refine gate_dst (N:=10) rfl ?_);refine box_event ?hg (N:=10) ?hd (cs:=#[.int .i64 0,.string (⟨#[]⟩ : ByteArray),.slice none 0 0,.string (⟨#[]⟩ : ByteArray)]) (t:=76) ?hr ?_;(case hd => rfl);(case hg => rfl);(case hr => first|(go_simp;done)|(go_simp;rfl));intro gb435 hg w32 hbox hb;have n0_:=zm_ (Kd.R_below zO_ hb);have n1_:=zm_ (blk_below (g:=gb429) (o:=.cells #[.slice A0_0 l0_0.length c0_0] 29 (0,0)) zK_ hb);have n2_:=zm_ (blk_below (g:=gb430) (o:=.cells #[.slice (some ad434) l1_0.length c1_0] 57 (0,0)) zK_ hb);have n3_:=zm_ (below_step zG_ hb);have n4_:=zm_ (hbox);have n5_:=zm_ ((by rw [hg];exact (below_size zG_) : w.heap.size ≤ gb435));have n6_:=zm_ ((by rw [hg];exact (below_size zG_) : w.heap.size ≤ gb435));have n7_:=zm_ ((zt18_10 : gb429 ≠ gb435));have n8_:=zm_ ((zt18_11 : gb435 ≠ gb429));have n9_:=zm_ ((zt18_14 : gb430 ≠ gb435));have n10_:=zm_ ((zt18_15 : gb435 ≠ gb430));clear HO_7;clear BK429;clear BK430;clear HB;have HO_7:=n0_;have BK429:=n1_;have BK430:=n2_;have HB:=n3_;have BK435:=n4_;have GW435:=n5_;have GE435:=n6_;have NB429_435:=n7_;have NB435_429:=n8_;have NB430_435:=n9_;have NB435_430:=n10_;clear n0_ n1_ n2_ n3_ n4_ n5_ n6_ n7_ n8_ n9_ n10_;clear hb hbox hg;have hnb33:=NB435_429.out;have hnc33:=NB429_435.out;have hnb34:=NB435_430.out;have hnc34:=NB430_435.out;have hcz35_0 : w32.cell? ⟨gb435,0,none⟩ = some (.int .i64 0):=(zc_ BK435.out 0).trans rfl;have hcz35_1 : w32.cell? ⟨gb435,1,none⟩ = some (.string (⟨#[]⟩ : ByteArray)):=(zc_ BK435.out 1).trans rfl;have hcz35_2 : w32.cell? ⟨gb435,2,none⟩ = some (.slice none 0 0):=(zc_ BK435.out 2).trans rfl;have hcz35_3 : w32.cell? ⟨gb435,3,none⟩ = some (.string (⟨#[]⟩ : ByteArray)):=(zc_ BK435.out 3).trans rfl;have hfz35_0:=zf_ BK435.out 0;have hfz35_1:=zf_ BK435.out 1;have hfz35_2:=zf_ BK435.out 2;have hfz35_3:=zf_ BK435.out 3;obtain ⟨Ao36,co36,eo36⟩:=Kd.R_slice HO_7.out;subst eo36)|((with_reducible refine gate_callee (f:=45) rfl ?_);refine goesL_ (some 24) rfl rfl Tryz.func45 (by kernel_rfl) rfl #[.agg #[.int .i64 ((rd_T76 l1_0 x17_1).f0),.string ((rd_T76 l1_0 x17_1).f1),.slice A434_2 ((rd_T76 l1_0 x17_1).f2).length c434_2,.string ((rd_T76 l1_0 x17_1).f3)],.slice Ao36 x7_1.length co36,.func (.func 44) #[] #[.pointer (some ⟨gb429,0,none⟩)]] rfl zq_ ?_;(with_reducible refine (impl_symOk.calls l0_0 k1 ((rd_T76 l1_0 x17_1).f0) ((rd_T76 l1_0 x17_1).f1) _ _ ((rd_T76 l1_0 x17_1).f2) ((rd_T76 l1_0 x17_1).f3) _ _ x7_1 0 false _ ?side1 ?side2 ?side3 ?side4 A13.out zt18_9 (Kd.C_below HR0_0.out zG_) HC0_0.out).mono ?_);(case side1 => exact Kd.C_below HR434_2.out zG_);(case side2 => exact HC434_2.out);(case side3 => refine (Kd.R_reads' (e:=9) (base:=w.heap.size) (ok:=fun k_ => True) (n:=x7_1.length) (c:=co36) ?_).2.2;exact zt18_1);(case side4 => exact (Kd.R_reads' HO_7.out).2.1);rintro e w37 ⟨rfl,hb⟩;refine ⟨_,rfl,?_⟩;have n0_:=zm_ (Kd.R_below zt18_1 hb);have n1_:=zm_ (blk_below (g:=gb429) (o:=.cells #[.slice A0_0 l0_0.length c0_0] 29 (0,0)) zt18_6 hb);have n2_:=zm_ (blk_below (g:=gb430) (o:=.cells #[.slice (some ad434) l1_0.length c1_0] 57 (0,0)) zt18_7 hb);have n3_:=zm_ (blk_below (g:=gb435) (o:=.cells #[.int .i64 ((rd_T76 l1_0 x17_1).f0),.string ((rd_T76 l1_0 x17_1).f1),.slice A434_2 ((rd_T76 l1_0 x17_1).f2).length c434_2,.string ((rd_T76 l1_0 x17_1).f3)] 76 (0,0)) zt18_2 hb);have n4_:=zm_ (below_step zG_ hb);clear HO_7;clear BK429;clear BK430;clear BK435;clear HB;have HO_7:=n0_;have BK429:=n1_;have BK430:=n2_;have BK435:=n3_;have HB:=n4_;clear n0_ n1_ n2_ n3_ n4_;(try clear hb)))
    go_ret
    exact ⟨zE_,zG_⟩
   subst c14
   rw [if_pos rfl] at H
   by_cases c15 : ((rd_T76 l1_0 x17_1).f3).toList = ([] : List UInt8)
   ·rw [if_pos c15] at H
    have c15b0 : (((rd_T76 l1_0 x17_1).f3).toList == ([] : List UInt8)) = true:=beq_iff_eq.mpr c15
    have c15b1 : (((rd_T76 l1_0 x17_1).f3).toList != ([] : List UInt8)) = false:=bne_eq_false_iff_eq.mpr c15
    clear c15
    have H':=zm_ H
    clear H
    have p434 : 0 ≤ (x17_1 : Int):=zo_
    have q434 : x17_1 < (l1_0.length : Int):=zo_
    obtain ⟨ad434,A434_2,c434_2,e434,hx434_0,hx434_1,hx434_2,hx434_3,hl434_2,hi434_2⟩:=at_T76 HR1_0.out x17_1 p434 q434
    cases e434
    replace hx434_0:=(HB.out.cell (zb_ w _ hx434_0)).trans hx434_0
    replace hx434_1:=(HB.out.cell (zb_ w _ hx434_1)).trans hx434_1
    replace hx434_2:=(HB.out.cell (zb_ w _ hx434_2)).trans hx434_2
    replace hx434_3:=(HB.out.cell (zb_ w _ hx434_3)).trans hx434_3
    have HR434_2:=zm_ hi434_2
    have HC434_2:=zm_ hl434_2
    clear hi434_2 hl434_2
    replace p434:=eq_true p434
    replace q434:=eq_true q434
    go_wp2_with (first|((with_reducible refine gate_dst (N:=10) rfl ?_);refine box_event ?hg (N:=10) ?hd (cs:=#[.int .i64 0,.string (⟨#[]⟩ : ByteArray),.slice none 0 0,.string (⟨#[]⟩ : ByteArray)]) (t:=76) ?hr ?_;(case hd => rfl);(case hg => rfl);(case hr => first|(go_simp;done)|(go_simp;rfl));intro gb435 hg w16 hbox hb;have n0_:=zm_ (Kd.R_below zO_ hb);have n1_:=zm_ (blk_below (g:=gb429) (o:=.cells #[.slice A0_0 l0_0.length c0_0] 29 (0,0)) zK_ hb);have n2_:=zm_ (blk_below (g:=gb430) (o:=.cells #[.slice (some ad434) l1_0.length c1_0] 57 (0,0)) zK_ hb);have n3_:=zm_ (below_step zG_ hb);have n4_:=zm_ (hbox);have n5_:=zm_ ((by rw [hg];exact (below_size zG_) : w.heap.size ≤ gb435));have n6_:=zm_ ((by rw [hg];exact (below_size zG_) : w.heap.size ≤ gb435));have n7_:=zm_ ((zt18_10 : gb429 ≠ gb435));have n8_:=zm_ ((zt18_11 : gb435 ≠ gb429));have n9_:=zm_ ((zt18_14 : gb430 ≠ gb435));have n10_:=zm_ ((zt18_15 : gb435 ≠ gb430));clear HO_7;clear BK429;clear BK430;clear HB;have HO_7:=n0_;have BK429:=n1_;have BK430:=n2_;have HB:=n3_;have BK435:=n4_;have GW435:=n5_;have GE435:=n6_;have NB429_435:=n7_;have NB435_429:=n8_;have NB430_435:=n9_;have NB435_430:=n10_;clear n0_ n1_ n2_ n3_ n4_ n5_ n6_ n7_ n8_ n9_ n10_;clear hb hbox hg;have hnb17:=NB435_429.out;have hnc17:=NB429_435.out;have hnb18:=NB435_430.out;have hnc18:=NB430_435.out;have hcz19_0 : w16.cell? ⟨gb435,0,none⟩ = some (.int .i64 0):=(zc_ BK435.out 0).trans rfl;have hcz19_1 : w16.cell? ⟨gb435,1,none⟩ = some (.string (⟨#[]⟩ : ByteArray)):=(zc_ BK435.out 1).trans rfl;have hcz19_2 : w16.cell? ⟨gb435,2,none⟩ = some (.slice none 0 0):=(zc_ BK435.out 2).trans rfl;have hcz19_3 : w16.cell? ⟨gb435,3,none⟩ = some (.string (⟨#[]⟩ : ByteArray)):=(zc_ BK435.out 3).trans rfl;have hfz19_0:=zf_ BK435.out 0;have hfz19_1:=zf_ BK435.out 1;have hfz19_2:=zf_ BK435.out 2;have hfz19_3:=zf_ BK435.out 3;obtain ⟨Ao20,co20,eo20⟩:=Kd.R_slice HO_7.out;subst eo20)|((with_reducible refine gate_callee (f:=45) rfl ?_);refine goesL_ (some 24) rfl rfl Tryz.func45 (by kernel_rfl) rfl #[.agg #[.int .i64 ((rd_T76 l1_0 x17_1).f0),.string ((rd_T76 l1_0 x17_1).f1),.slice A434_2 ((rd_T76 l1_0 x17_1).f2).length c434_2,.string ((rd_T76 l1_0 x17_1).f3)],.slice Ao20 x7_1.length co20,.func (.func 44) #[] #[.pointer (some ⟨gb429,0,none⟩)]] rfl zq_ ?_;(with_reducible refine (impl_symOk.calls l0_0 k1 ((rd_T76 l1_0 x17_1).f0) ((rd_T76 l1_0 x17_1).f1) _ _ ((rd_T76 l1_0 x17_1).f2) ((rd_T76 l1_0 x17_1).f3) _ _ x7_1 0 true _ ?side1 ?side2 ?side3 ?side4 A13.out zt18_9 (Kd.C_below HR0_0.out zG_) HC0_0.out).mono ?_);(case side1 => exact Kd.C_below HR434_2.out zG_);(case side2 => exact HC434_2.out);(case side3 => refine (Kd.R_reads' (e:=9) (base:=w.heap.size) (ok:=fun k_ => True) (n:=x7_1.length) (c:=co20) ?_).2.2;exact zt18_1);(case side4 => exact (Kd.R_reads' HO_7.out).2.1);rintro e w21 ⟨rfl,hb⟩;refine ⟨_,rfl,?_⟩;have n0_:=zm_ (Kd.R_below zt18_1 hb);have n1_:=zm_ (blk_below (g:=gb429) (o:=.cells #[.slice A0_0 l0_0.length c0_0] 29 (0,0)) zt18_6 hb);have n2_:=zm_ (blk_below (g:=gb430) (o:=.cells #[.slice (some ad434) l1_0.length c1_0] 57 (0,0)) zt18_7 hb);have n3_:=zm_ (blk_below (g:=gb435) (o:=.cells #[.int .i64 ((rd_T76 l1_0 x17_1).f0),.string ((rd_T76 l1_0 x17_1).f1),.slice A434_2 ((rd_T76 l1_0 x17_1).f2).length c434_2,.string ((rd_T76 l1_0 x17_1).f3)] 76 (0,0)) zt18_2 hb);have n4_:=zm_ (below_step zG_ hb);clear HO_7;clear BK429;clear BK430;clear BK435;clear HB;have HO_7:=n0_;have BK429:=n1_;have BK430:=n2_;have BK435:=n3_;have HB:=n4_;clear n0_ n1_ n2_ n3_ n4_;(try clear hb);have hcz22_0 : w21.cell? ⟨gb435,0,none⟩ = some (.int .i64 ((rd_T76 l1_0 x17_1).f0)):=(zc_ BK435.out 0).trans rfl;have hcz22_1 : w21.cell? ⟨gb435,1,none⟩ = some (.string ((rd_T76 l1_0 x17_1).f1)):=(zc_ BK435.out 1).trans rfl;have hcz22_2 : w21.cell? ⟨gb435,2,none⟩ = some (.slice A434_2 ((rd_T76 l1_0 x17_1).f2).length c434_2):=(zc_ BK435.out 2).trans rfl;have hcz22_3 : w21.cell? ⟨gb435,3,none⟩ = some (.string ((rd_T76 l1_0 x17_1).f3)):=(zc_ BK435.out 3).trans rfl;have hfz22_0:=zf_ BK435.out 0;have hfz22_1:=zf_ BK435.out 1;have hfz22_2:=zf_ BK435.out 2;have hfz22_3:=zf_ BK435.out 3))
    go_roundg k1
    case measure => have:=HK1.out;omega
    case rel => exact ⟨(x7_1),(wrap64 (x17_1 + 1)),zV_,H',⟨by have:=HK1.out;omega⟩,⟨zO_⟩,⟨zK_⟩,⟨zK_⟩,⟨zG_⟩⟩
   rw [if_neg c15] at H
   have c15b0 : (((rd_T76 l1_0 x17_1).f3).toList == ([] : List UInt8)) = false:=beq_eq_false_iff_ne.mpr c15
   have c15b1 : (((rd_T76 l1_0 x17_1).f3).toList != ([] : List UInt8)) = true:=bne_iff_ne.mpr c15
   by_cases c23 : x7_1.length < 8796093022208
   rotate_left
   ·rw [if_neg c23] at H
    cases H
   rw [if_pos c23] at H
   have LMc23:=zm_ c23
   clear c23
   obtain ⟨y437,hy437⟩ : ∃ y_ : List ByteArray,y_ = (x7_1 ++ [(rd_T76 l1_0 x17_1).f3]):=⟨_,rfl⟩
   replace H : (impl_altOk.l0 l0_0 k1 y437 0 l1_0 (l1_0.length : Int) (wrap64 (x17_1 + 1)) l1_0) = some r:=by first|(rw [hy437];with_reducible exact H)|(have H2_:=(Option.bind_some _ _).symm.trans H;rw [hy437];with_reducible exact H2_)|(have H2_:=(Option.bind_some _ _).symm.trans H;with_reducible exact H2_)|with_reducible exact H|(rw [hy437];exact H)|exact H
   have Ny437:=zm_ hy437
   clear hy437
   have H':=zm_ H
   clear H
   have p434 : 0 ≤ (x17_1 : Int):=zo_
   have q434 : x17_1 < (l1_0.length : Int):=zo_
   obtain ⟨ad434,A434_2,c434_2,e434,hx434_0,hx434_1,hx434_2,hx434_3,hl434_2,hi434_2⟩:=at_T76 HR1_0.out x17_1 p434 q434
   cases e434
   replace hx434_0:=(HB.out.cell (zb_ w _ hx434_0)).trans hx434_0
   replace hx434_1:=(HB.out.cell (zb_ w _ hx434_1)).trans hx434_1
   replace hx434_2:=(HB.out.cell (zb_ w _ hx434_2)).trans hx434_2
   replace hx434_3:=(HB.out.cell (zb_ w _ hx434_3)).trans hx434_3
   have HR434_2:=zm_ hi434_2
   have HC434_2:=zm_ hl434_2
   clear hi434_2 hl434_2
   replace p434:=eq_true p434
   replace q434:=eq_true q434
   go_wp2_with (first|((with_reducible refine gate_dst (N:=10) rfl ?_);refine box_event ?hg (N:=10) ?hd (cs:=#[.int .i64 0,.string (⟨#[]⟩ : ByteArray),.slice none 0 0,.string (⟨#[]⟩ : ByteArray)]) (t:=76) ?hr ?_;(case hd => rfl);(case hg => rfl);(case hr => first|(go_simp;done)|(go_simp;rfl));intro gb435 hg w24 hbox hb;have n0_:=zm_ (Kd.R_below zO_ hb);have n1_:=zm_ (blk_below (g:=gb429) (o:=.cells #[.slice A0_0 l0_0.length c0_0] 29 (0,0)) zK_ hb);have n2_:=zm_ (blk_below (g:=gb430) (o:=.cells #[.slice (some ad434) l1_0.length c1_0] 57 (0,0)) zK_ hb);have n3_:=zm_ (below_step zG_ hb);have n4_:=zm_ (hbox);have n5_:=zm_ ((by rw [hg];exact (below_size zG_) : w.heap.size ≤ gb435));have n6_:=zm_ ((by rw [hg];exact (below_size zG_) : w.heap.size ≤ gb435));have n7_:=zm_ ((zt18_10 : gb429 ≠ gb435));have n8_:=zm_ ((zt18_11 : gb435 ≠ gb429));have n9_:=zm_ ((zt18_14 : gb430 ≠ gb435));have n10_:=zm_ ((zt18_15 : gb435 ≠ gb430));clear HO_7;clear BK429;clear BK430;clear HB;have HO_7:=n0_;have BK429:=n1_;have BK430:=n2_;have HB:=n3_;have BK435:=n4_;have GW435:=n5_;have GE435:=n6_;have NB429_435:=n7_;have NB435_429:=n8_;have NB430_435:=n9_;have NB435_430:=n10_;clear n0_ n1_ n2_ n3_ n4_ n5_ n6_ n7_ n8_ n9_ n10_;clear hb hbox hg;have hnb25:=NB435_429.out;have hnc25:=NB429_435.out;have hnb26:=NB435_430.out;have hnc26:=NB430_435.out;have hcz27_0 : w24.cell? ⟨gb435,0,none⟩ = some (.int .i64 0):=(zc_ BK435.out 0).trans rfl;have hcz27_1 : w24.cell? ⟨gb435,1,none⟩ = some (.string (⟨#[]⟩ : ByteArray)):=(zc_ BK435.out 1).trans rfl;have hcz27_2 : w24.cell? ⟨gb435,2,none⟩ = some (.slice none 0 0):=(zc_ BK435.out 2).trans rfl;have hcz27_3 : w24.cell? ⟨gb435,3,none⟩ = some (.string (⟨#[]⟩ : ByteArray)):=(zc_ BK435.out 3).trans rfl;have hfz27_0:=zf_ BK435.out 0;have hfz27_1:=zf_ BK435.out 1;have hfz27_2:=zf_ BK435.out 2;have hfz27_3:=zf_ BK435.out 3;obtain ⟨Ao28,co28,eo28⟩:=Kd.R_slice HO_7.out;subst eo28)|((with_reducible refine gate_callee (f:=45) rfl ?_);refine goesL_ (some 24) rfl rfl Tryz.func45 (by kernel_rfl) rfl #[.agg #[.int .i64 ((rd_T76 l1_0 x17_1).f0),.string ((rd_T76 l1_0 x17_1).f1),.slice A434_2 ((rd_T76 l1_0 x17_1).f2).length c434_2,.string ((rd_T76 l1_0 x17_1).f3)],.slice Ao28 x7_1.length co28,.func (.func 44) #[] #[.pointer (some ⟨gb429,0,none⟩)]] rfl zq_ ?_;(with_reducible refine (impl_symOk.calls l0_0 k1 ((rd_T76 l1_0 x17_1).f0) ((rd_T76 l1_0 x17_1).f1) _ _ ((rd_T76 l1_0 x17_1).f2) ((rd_T76 l1_0 x17_1).f3) _ _ x7_1 0 true _ ?side1 ?side2 ?side3 ?side4 A13.out zt18_9 (Kd.C_below HR0_0.out zG_) HC0_0.out).mono ?_);(case side1 => exact Kd.C_below HR434_2.out zG_);(case side2 => exact HC434_2.out);(case side3 => refine (Kd.R_reads' (e:=9) (base:=w.heap.size) (ok:=fun k_ => True) (n:=x7_1.length) (c:=co28) ?_).2.2;exact zt18_1);(case side4 => exact (Kd.R_reads' HO_7.out).2.1);rintro e w29 ⟨rfl,hb⟩;refine ⟨_,rfl,?_⟩;have n0_:=zm_ (Kd.R_below zt18_1 hb);have n1_:=zm_ (blk_below (g:=gb429) (o:=.cells #[.slice A0_0 l0_0.length c0_0] 29 (0,0)) zt18_6 hb);have n2_:=zm_ (blk_below (g:=gb430) (o:=.cells #[.slice (some ad434) l1_0.length c1_0] 57 (0,0)) zt18_7 hb);have n3_:=zm_ (blk_below (g:=gb435) (o:=.cells #[.int .i64 ((rd_T76 l1_0 x17_1).f0),.string ((rd_T76 l1_0 x17_1).f1),.slice A434_2 ((rd_T76 l1_0 x17_1).f2).length c434_2,.string ((rd_T76 l1_0 x17_1).f3)] 76 (0,0)) zt18_2 hb);have n4_:=zm_ (below_step zG_ hb);clear HO_7;clear BK429;clear BK430;clear BK435;clear HB;have HO_7:=n0_;have BK429:=n1_;have BK430:=n2_;have BK435:=n3_;have HB:=n4_;clear n0_ n1_ n2_ n3_ n4_;(try clear hb);have hcz30_0 : w29.cell? ⟨gb435,0,none⟩ = some (.int .i64 ((rd_T76 l1_0 x17_1).f0)):=(zc_ BK435.out 0).trans rfl;have hcz30_1 : w29.cell? ⟨gb435,1,none⟩ = some (.string ((rd_T76 l1_0 x17_1).f1)):=(zc_ BK435.out 1).trans rfl;have hcz30_2 : w29.cell? ⟨gb435,2,none⟩ = some (.slice A434_2 ((rd_T76 l1_0 x17_1).f2).length c434_2):=(zc_ BK435.out 2).trans rfl;have hcz30_3 : w29.cell? ⟨gb435,3,none⟩ = some (.string ((rd_T76 l1_0 x17_1).f3)):=(zc_ BK435.out 3).trans rfl;have hfz30_0:=zf_ BK435.out 0;have hfz30_1:=zf_ BK435.out 1;have hfz30_2:=zf_ BK435.out 2;have hfz30_3:=zf_ BK435.out 3)|((with_reducible refine gate_builtin (b:=.append) (xs:=#[.tmp 29,.tmp 32]) rfl ?_);at_builtin;refine Kd.R_append Kd.string (w0:=w) w.heap.size rfl (.tmp 29) (.tmp 32) 46 9 (.string ⟨#[]⟩) 16 rfl Tryz.underlying46 info9 rfl (by decide) (by omega) (.slice Ao28 x7_1.length co28) x7_1 ((rd_T76 l1_0 x17_1).f3) [.string ((rd_T76 l1_0 x17_1).f3)] (fun _ => True) (fun _ => False) rfl rfl ?aP (fun _ hk => hk.elim) ?aF ?aO ?aB ?aS ?aL ?_;(case aP => exact rfl);(case aB => exact zG_);(case aF => exact (fun _ _ => trivial));(case aO => exact zO_);(case aS => exact (below_size zG_));(case aL => have:=LMc23.out;omega);intro v438 w31 ho hb hg hat;rw [← Ny437.out] at ho;have n0_:=zm_ (blk_grown (g:=gb429) (o:=.cells #[.slice A0_0 l0_0.length c0_0] 29 (0,0)) zK_ hg (Kd.R_ne HO_7.out BK429.out (by decide)));have n1_:=zm_ (blk_grown (g:=gb430) (o:=.cells #[.slice (some ad434) l1_0.length c1_0] 57 (0,0)) zK_ hg (Kd.R_ne HO_7.out BK430.out (by decide)));have n2_:=zm_ (blk_grown (g:=gb435) (o:=.cells #[.int .i64 ((rd_T76 l1_0 x17_1).f0),.string ((rd_T76 l1_0 x17_1).f1),.slice A434_2 ((rd_T76 l1_0 x17_1).f2).length c434_2,.string ((rd_T76 l1_0 x17_1).f3)] 76 (0,0)) zK_ hg (Kd.R_ne HO_7.out BK435.out (by decide)));have n3_:=zm_ (hb);have n4_:=zm_ (ho);clear BK429;clear BK430;clear BK435;clear HB;clear HO_7;have BK429:=n0_;have BK430:=n1_;have BK435:=n2_;have HB:=n3_;have HO439:=n4_;clear n0_ n1_ n2_ n3_ n4_;clear ho hb hg hat))
   go_roundg k1
   case measure => have:=HK1.out;omega
   case rel => exact ⟨(y437),(wrap64 (x17_1 + 1)),zV_,H',⟨by have:=HK1.out;omega⟩,⟨zO_⟩,⟨zK_⟩,⟨zK_⟩,⟨zG_⟩⟩
end Go.Proofs.YtkbgmojomgelbaaGreat.MFnExactGrammarOk
