import Derived.Test.YtkbgmojomgelbaaGreatMFnExactGrammarOkx0
import Derived.Test.YtkbgmojomgelbaaGreatMFnExactGrammarOkx2
import Derived.Test.YtkbgmojomgelbaaGreatMFnExactGrammarOkx10
import Derived.Test.YtkbgmojomgelbaaGreatMFnExactGrammarOkx12
import Derived.Test.YtkbgmojomgelbaaGreatMFnExactGrammarOkx19
import Derived.Test.YtkbgmojomgelbaaGreatMFnExactGrammarOkx21
namespace Go.Proofs.YtkbgmojomgelbaaGreat.MFnExactGrammarOk
open Go.RowKit Go.Proofs.YtkbgmojomgelbaaGreatW.PrintWords Go.Proofs.YtkbgmojomgelbaaGreatW.PrintLast Go.Proofs.YtkbgmojomgelbaaGreatW.PrintMore
attribute [local go_sem] max2_int min2_int max_two min_two max_three min_three max_four min_four
set_option linter.unusedVariables false
set_option linter.unusedSimpArgs false
set_option maxHeartbeats 8000000
set_option maxRecDepth 100000
theorem zt22_7 {p : Prop} (h : p := by (with_reducible repeat (first|apply Kd.R_alloc|apply Kd.R_drewN|apply Kd.R_drew));exact (Kd.R_mono (Kd.R_far (p:=⟨gb499,0,none⟩) (Kd.R_types HO498.out BK499.out (by decide)) (fun _ hk => hk.2) (.slice Ao25 t496.length co25)) (fun _ h_ => h_.1))) : p := h

def laws_eqRuleS.l0 : Nat → List (S49) → List (S49) → Int → Option (Bool)
 |0,_,_,_ => none
 |k + 1,x0,x1,x5 => if x5 < (x0.length : Int) then (if 0 ≤ x5 then (if x5 < (x1.length : Int) then ((laws_eqRule.f k ((rd_T49 x0 x5).f0) ((rd_T49 x0 x5).f1) ((rd_T49 x0 x5).f2) ((rd_T49 x1 x5).f0) ((rd_T49 x1 x5).f1) ((rd_T49 x1 x5).f2)).bind fun t486 => (if t486 = true then (laws_eqRuleS.l0 k x0 x1 (wrap64 (x5 + 1))) else (none))) else (none)) else (none)) else (some true)
def laws_eqRuleS.f (k : Nat) (l0 : List (S49)) (l1 : List (S49)) : Option (Bool):=if (l0.length : Int) = (l1.length : Int) then (laws_eqRuleS.l0 k l0 l1 0) else (none)
def laws_eqRuleS.T6 : Bool × List (List Nat × List Nat):=(true,[([],[]),([],[]),([0,1],[0,1]),([2],[2]),([],[]),([],[]),([4,5],[4,5]),([6],[6]),([3,7],[3,7]),([8],[8])])
def laws_eqRuleS.B6 : List Nat:=[0,0,3,7,0,0,48,112,255,511]
theorem laws_eqRuleS.tab6 : rtab .any (opsOf Tryz.f25 6) = laws_eqRuleS.T6:=by kernel_rfl
theorem laws_eqRuleS.bits6 : waitsOk laws_eqRuleS.T6.2 laws_eqRuleS.B6 = true:=by kernel_rfl
theorem laws_eqRuleS.calls (k : Nat) (A0 : Option Addr) (c0 : Nat) (l0 : List (S49)) (A1 : Option Addr) (c1 : Nat) (l1 : List (S49)) (r : Bool) (w : World) (hr0 : Kd.C k49 w A0 l0.length l0) (hc0 : l0.length ≤ c0) (hr1 : Kd.C k49 w A1 l1.length l1) (hc1 : l1.length ≤ c1) (h : laws_eqRuleS.f k l0 l1 = some r) :
  Calls Tryz.prog 25 #[.slice A0 l0.length c0,.slice A1 l1.length c1] w fun e w' => e = .returned (.bool r) ∧ Below w.heap.size w w':=by
 have hu49:=Tryz.underlying49
 have HR0:=zm_ hr0
 have HC0:=zm_ hc0
 clear hr0 hc0
 have HR1:=zm_ hr1
 have HC1:=zm_ hc1
 clear hr1 hc1
 have HB:=zm_ (Below.refl w.heap.size w)
 have H : (if (l0.length : Int) = (l1.length : Int) then (laws_eqRuleS.l0 k l0 l1 0) else (none)) = some r:=h
 clear h
 by_cases c3 : (l0.length : Int) = (l1.length : Int)
 rotate_left
 ·rw [if_neg c3] at H
  cases H


 rw [if_pos c3] at H
 have c3b0 : ((l0.length : Int) == (l1.length : Int)) = true:=beq_iff_eq.mpr c3
 have c3b1 : ((l0.length : Int) != (l1.length : Int)) = false:=bne_eq_false_iff_eq.mpr c3
 have c3b2 : (l0.length == l1.length) = true:=by first|simpa using c3|(simp at c3 ⊢;omega)
 clear c3
 have H':=zm_ H
 clear H
 go_enter Tryz.func25,Tryz.ntmps25
 go_wp2
 go_loopg [5] k (fun kq v5 w' => ∃ (x5_1 : Int),v5 = .int .i64 x5_1 ∧ Aside0 (laws_eqRuleS.l0 kq l0 l1 x5_1 = some r) ∧ Aside0 (kq ≤ k) ∧ Aside0 (Below w.heap.size w w'))
 case atStart => exact ⟨(0),zV_,H',⟨Nat.le_refl _⟩,⟨zG_⟩⟩
 case round =>
  clear H'
  obtain ⟨x5_1,rfl,HA,HK1,HB⟩:=hrel
  cases gk with
  |zero => exact absurd HA.out (by simp [laws_eqRuleS.l0])
  |succ k1 =>
   have H:=HA.out
   clear HA
   simp only [laws_eqRuleS.l0] at H
   by_cases c4 : x5_1 < (l0.length : Int)
   rotate_left
   ·rw [if_neg c4] at H
    have c4b0:=decide_eq_false c4
    clear c4
    obtain rfl:=zi_ H
    go_wp2
    go_ret
    exact ⟨zE_,zG_⟩
   rw [if_pos c4] at H
   have c4b0:=decide_eq_true c4
   clear c4
   by_cases c5 : 0 ≤ x5_1
   rotate_left
   ·rw [if_neg c5] at H
    cases H
   rw [if_pos c5] at H
   have c5b0:=decide_eq_true c5
   clear c5
   by_cases c6 : x5_1 < (l1.length : Int)
   rotate_left
   ·rw [if_neg c6] at H
    cases H
   rw [if_pos c6] at H
   have c6b0:=decide_eq_true c6
   clear c6
   obtain ⟨t486,A7,H⟩:=zJ_ H
   try dsimp only at H
   by_cases c8 : t486 = true
   rotate_left
   ·replace c8:=Bool.eq_false_iff.mpr c8
    subst c8
    rw [zF_] at H
    cases H
   subst c8
   rw [if_pos rfl] at H
   have H':=zm_ H
   clear H
   try go_wp2
   have n0_:=zm_ (zd_ HB.out)
   clear HB
   have HB:=n0_
   clear n0_
   have p484 : 0 ≤ (x5_1 : Int):=zo_
   have q484 : x5_1 < (l0.length : Int):=zo_
   obtain ⟨ad484,A484_1,c484_1,A484_2,c484_2,e484,hx484_0,hx484_1,hx484_2,hl484_1,hi484_1,hl484_2,hi484_2⟩:=at_T49 HR0.out x5_1 p484 q484
   have hw484_2:=hx484_2
   have hw484_1:=hx484_1
   have hw484_0:=hx484_0
   cases e484
   replace hx484_0:=(HB.out.cell (zb_ w _ hx484_0)).trans hx484_0
   replace hx484_1:=(HB.out.cell (zb_ w _ hx484_1)).trans hx484_1
   replace hx484_2:=(HB.out.cell (zb_ w _ hx484_2)).trans hx484_2
   have HR484_1:=zm_ hi484_1
   have HC484_1:=zm_ hl484_1
   clear hi484_1 hl484_1
   have HR484_2:=zm_ hi484_2
   have HC484_2:=zm_ hl484_2
   clear hi484_2 hl484_2
   replace p484:=eq_true p484
   replace q484:=eq_true q484
   have p485 : 0 ≤ (x5_1 : Int):=zo_
   have q485 : x5_1 < (l1.length : Int):=zo_
   obtain ⟨ad485,A485_1,c485_1,A485_2,c485_2,e485,hx485_0,hx485_1,hx485_2,hl485_1,hi485_1,hl485_2,hi485_2⟩:=at_T49 HR1.out x5_1 p485 q485
   have hw485_2:=hx485_2
   have hw485_1:=hx485_1
   have hw485_0:=hx485_0
   cases e485
   replace hx485_0:=(HB.out.cell (zb_ w _ hx485_0)).trans hx485_0
   replace hx485_1:=(HB.out.cell (zb_ w _ hx485_1)).trans hx485_1
   replace hx485_2:=(HB.out.cell (zb_ w _ hx485_2)).trans hx485_2
   have HR485_1:=zm_ hi485_1
   have HC485_1:=zm_ hl485_1
   clear hi485_1 hl485_1
   have HR485_2:=zm_ hi485_2
   have HC485_2:=zm_ hl485_2
   clear hi485_2 hl485_2
   replace p485:=eq_true p485
   replace q485:=eq_true q485
   refine start_ (n:=10) (S:=fun w' => w'.cell? (ad484.add ((x5_1).toNat * 3)) = some (.string ((rd_T49 l0 x5_1).f0)) ∧ w'.cell? ⟨(ad484.add ((x5_1).toNat * 3)).block,(ad484.add ((x5_1).toNat * 3)).off + 1,none⟩ = some (.slice A484_1 ((rd_T49 l0 x5_1).f1).length c484_1) ∧ w'.cell? ⟨(ad484.add ((x5_1).toNat * 3)).block,(ad484.add ((x5_1).toNat * 3)).off + 2,none⟩ = some (.slice A484_2 ((rd_T49 l0 x5_1).f2).length c484_2) ∧ w'.cell? (ad485.add ((x5_1).toNat * 3)) = some (.string ((rd_T49 l1 x5_1).f0)) ∧ w'.cell? ⟨(ad485.add ((x5_1).toNat * 3)).block,(ad485.add ((x5_1).toNat * 3)).off + 1,none⟩ = some (.slice A485_1 ((rd_T49 l1 x5_1).f1).length c485_1) ∧ w'.cell? ⟨(ad485.add ((x5_1).toNat * 3)).block,(ad485.add ((x5_1).toNat * 3)).off + 2,none⟩ = some (.slice A485_2 ((rd_T49 l1 x5_1).f2).length c485_2)) (ds:=[]) #[false,false,false,false,false,false,false,false,false,false] (by kernel_rfl) rfl rfl ⟨((HB.out.cell (zb_ w _ hw484_0)).trans hw484_0),((HB.out.cell (zb_ w _ hw484_1)).trans hw484_1),((HB.out.cell (zb_ w _ hw484_2)).trans hw484_2),((HB.out.cell (zb_ w _ hw485_0)).trans hw485_0),((HB.out.cell (zb_ w _ hw485_1)).trans hw485_1),((HB.out.cell (zb_ w _ hw485_2)).trans hw485_2)⟩ (fun hHeld => ?_);refine with_tabW laws_eqRuleS.tab6 laws_eqRuleS.bits6 (fun HT_ HW_ => ?_)
   generalize wr.drew = w9 at HB HR484_1 HR484_2 HR485_1 HR485_2 hx484_0 hx484_1 hx484_2 hx485_0 hx485_1 hx485_2 hHeld ⊢
   refine zp_ 0 (some 17) ?_
   refine zp_ 1 (some 18) ?_
   refine zp_ 2 (some 19) ?_
   refine zp_ 4 (some 21) ?_
   refine zp_ 5 (some 22) ?_
   refine zp_ 6 (some 23) ?_
   refine zk2_ 3 (some 20) ?_
   refine zk2_ 7 (some 24) ?_
   refine one_ (i:=8) (N:=some 25) #[true,true,true,true,true,true,true,true,true,false] rfl rfl (one_of HT_.out (by kernel_rfl)) (by decide) (fun K hK => ?_)
   refine goes_ Tryz.func46 (by kernel_rfl) rfl #[.agg #[.string ((rd_T49 l0 x5_1).f0),.slice A484_1 ((rd_T49 l0 x5_1).f1).length c484_1,.slice A484_2 ((rd_T49 l0 x5_1).f2).length c484_2],.agg #[.string ((rd_T49 l1 x5_1).f0),.slice A485_1 ((rd_T49 l1 x5_1).f1).length c485_1,.slice A485_2 ((rd_T49 l1 x5_1).f2).length c485_2]] (by rfl) rfl rfl zq_ ?_
   with_reducible refine (laws_eqRule.calls k1 ((rd_T49 l0 x5_1).f0) _ _ ((rd_T49 l0 x5_1).f1) _ _ ((rd_T49 l0 x5_1).f2) ((rd_T49 l1 x5_1).f0) _ _ ((rd_T49 l1 x5_1).f1) _ _ ((rd_T49 l1 x5_1).f2) true _ ?side1 ?side2 ?side3 ?side4 ?side5 ?side6 ?side7 ?side8 A7.out).mono ?_
   (case side1 => exact zP_)
   (case side2 => exact HC484_1.out)
   (case side3 => exact zP_)
   (case side4 => exact HC484_2.out)
   (case side5 => exact zP_)
   (case side6 => exact HC485_1.out)
   (case side7 => exact zP_)
   (case side8 => exact HC485_2.out)
   rintro e w10 ⟨rfl,hb⟩
   refine ⟨_,rfl,?_⟩
   have n0_:=zm_ (below_step zB_ hb)
   clear HB
   have HB:=n0_
   clear n0_
   (try clear hb)
   (try clear hb2)
   (try clear hk)
   (try clear hi)
   refine hK.out _ _ ⟨((HB.out.cell (zb_ w _ hw484_0)).trans hw484_0),((HB.out.cell (zb_ w _ hw484_1)).trans hw484_1),((HB.out.cell (zb_ w _ hw484_2)).trans hw484_2),((HB.out.cell (zb_ w _ hw485_0)).trans hw485_0),((HB.out.cell (zb_ w _ hw485_1)).trans hw485_1),((HB.out.cell (zb_ w _ hw485_2)).trans hw485_2)⟩ (fun hHeld => ?_)
   clear hK K
   refine zm2_ ?_
   refine zp_ 9 (some 26) ?_
   refine done_ (done_of HT_.out (by kernel_rfl)) ?_
   try go_wp2
   go_roundg k1
   case measure => have:=HK1.out;omega
   case rel => exact ⟨(wrap64 (x5_1 + 1)),zV_,H',⟨by have:=HK1.out;omega⟩,⟨zG_⟩⟩
def laws_eqGrammar.f (k : Nat) (l0_0 : List (S49)) (l1_0 : List (S49)) : Option (Bool):=(laws_eqRuleS.f k l0_0 l1_0).bind fun t489 => (if t489 = true then (some true) else (none))
theorem laws_eqGrammar.calls (k : Nat) (A0_0 : Option Addr) (c0_0 : Nat) (l0_0 : List (S49)) (A1_0 : Option Addr) (c1_0 : Nat) (l1_0 : List (S49)) (r : Bool) (w : World) (hr0_0 : Kd.C k49 w A0_0 l0_0.length l0_0) (hc0_0 : l0_0.length ≤ c0_0) (hr1_0 : Kd.C k49 w A1_0 l1_0.length l1_0) (hc1_0 : l1_0.length ≤ c1_0) (h : laws_eqGrammar.f k l0_0 l1_0 = some r) :
  Calls Tryz.prog 9 #[.agg #[.slice A0_0 l0_0.length c0_0],.agg #[.slice A1_0 l1_0.length c1_0]] w fun e w' => e = .returned (.bool r) ∧ Below w.heap.size w w':=by
 have hu29:=Tryz.underlying29
 have HR0_0:=zm_ hr0_0
 have HC0_0:=zm_ hc0_0
 clear hr0_0 hc0_0
 have HR1_0:=zm_ hr1_0
 have HC1_0:=zm_ hc1_0
 clear hr1_0 hc1_0
 have HB:=zm_ (Below.refl w.heap.size w)
 have H : ((laws_eqRuleS.f k l0_0 l1_0).bind fun t489 => (if t489 = true then (some true) else (none))) = some r:=h
 clear h
 obtain ⟨t489,A3,H⟩:=zJ_ H
 try dsimp only at H
 by_cases c4 : t489 = true
 rotate_left
 ·replace c4:=Bool.eq_false_iff.mpr c4
  subst c4
  rw [zF_] at H
  cases H


 subst c4
 rw [if_pos rfl] at H
 obtain rfl:=zi_ H
 go_enter Tryz.func9,Tryz.ntmps9
 go_wp2_with (first|((with_reducible refine gate_dst (N:=2) rfl ?_);refine box_event ?hg (N:=2) ?hd (cs:=#[.slice A0_0 l0_0.length c0_0]) (t:=29) ?hr ?_;(case hd => rfl);(case hg => rfl);(case hr => first|(go_simp;done)|(go_simp;rfl));intro gb487 hg w5 hbox hb;have n0_:=zm_ (below_step zB_ hb);have n1_:=zm_ (hbox);have n2_:=zm_ ((by rw [hg];exact (below_size zB_) : w.heap.size ≤ gb487));have n3_:=zm_ ((by rw [hg];exact (below_size zB_) : w.heap.size ≤ gb487));clear HB;have HB:=n0_;have BK487:=n1_;have GW487:=n2_;have GE487:=n3_;clear n0_ n1_ n2_ n3_;clear hb hbox hg)|((with_reducible refine gate_dst (N:=3) rfl ?_);refine box_event ?hg (N:=3) ?hd (cs:=#[.slice A1_0 l1_0.length c1_0]) (t:=29) ?hr ?_;(case hd => rfl);(case hg => rfl);(case hr => first|(go_simp;done)|(go_simp;rfl));intro gb488 hg w6 hbox hb;have n0_:=zm_ (blk_below (g:=gb487) (o:=.cells #[.slice A0_0 l0_0.length c0_0] 29 (0,0)) zK_ hb);have n1_:=zm_ (below_step zG_ hb);have n2_:=zm_ (hbox);have n3_:=zm_ ((by rw [hg];exact (below_size zG_) : w.heap.size ≤ gb488));have n4_:=zm_ ((by rw [hg];exact (below_size zG_) : w.heap.size ≤ gb488));have n5_:=zm_ ((by rw [hg];exact Nat.ne_of_lt (blk_lt (g:=gb487) (o:=.cells #[.slice A0_0 l0_0.length c0_0] 29 (0,0)) zK_) : gb487 ≠ gb488));have n6_:=zm_ ((by rw [hg];exact Nat.ne_of_gt (blk_lt (g:=gb487) (o:=.cells #[.slice A0_0 l0_0.length c0_0] 29 (0,0)) zK_) : gb488 ≠ gb487));clear BK487;clear HB;have BK487:=n0_;have HB:=n1_;have BK488:=n2_;have GW488:=n3_;have GE488:=n4_;have NB487_488:=n5_;have NB488_487:=n6_;clear n0_ n1_ n2_ n3_ n4_ n5_ n6_;clear hb hbox hg;have hnb7:=NB487_488.out;have hnc7:=NB488_487.out;have hcz8_0 : w6.cell? ⟨gb487,0,none⟩ = some (.slice A0_0 l0_0.length c0_0):=(zc_ BK487.out 0).trans rfl;have hfz8_0:=zf_ BK487.out 0;have hcz9_0 : w6.cell? ⟨gb488,0,none⟩ = some (.slice A1_0 l1_0.length c1_0):=(zc_ BK488.out 0).trans rfl;have hfz9_0:=zf_ BK488.out 0)|((with_reducible refine gate_callee (f:=25) rfl ?_);refine goesL_ (some 9) rfl rfl Tryz.func25 (by kernel_rfl) rfl #[.slice A0_0 l0_0.length c0_0,.slice A1_0 l1_0.length c1_0] rfl zq_ ?_;(with_reducible refine (laws_eqRuleS.calls k _ _ l0_0 _ _ l1_0 true _ ?side1 ?side2 ?side3 ?side4 A3.out).mono ?_);(case side1 => exact zP_);(case side2 => exact HC0_0.out);(case side3 => exact zP_);(case side4 => exact HC1_0.out);rintro e w10 ⟨rfl,hb⟩;refine ⟨_,rfl,?_⟩;have n0_:=zm_ (blk_below (g:=gb487) (o:=.cells #[.slice A0_0 l0_0.length c0_0] 29 (0,0)) zK_ hb);have n1_:=zm_ (blk_below (g:=gb488) (o:=.cells #[.slice A1_0 l1_0.length c1_0] 29 (0,0)) zK_ hb);have n2_:=zm_ (below_step zG_ hb);clear BK487;clear BK488;clear HB;have BK487:=n0_;have BK488:=n1_;have HB:=n2_;clear n0_ n1_ n2_;(try clear hb)))
 go_ret
 exact ⟨zE_,zG_⟩
def laws_FnExactGrammarOk.f (k : Nat) (l0_0 : List (S73)) : Option (Bool):=(laws_szGrammar.f k l0_0 1048576).bind fun t491 => (if t491 < 0 then (some true) else ((laws_toGrammar.f k l0_0).bind fun t492 => ((spec_GrammarOk.f k t492).bind fun t495 => ((laws_toGrammar.f k l0_0).bind fun t496 => ((impl_GrammarOk.f k t496).bind fun t500 => (if (t500 != t495) = true then (none) else ((laws_toGrammar.f k l0_0).bind fun t501 => ((laws_eqGrammar.f k t496 t501).bind fun t504 => (if t504 = true then (some true) else (none))))))))))
theorem laws_FnExactGrammarOk.calls (k : Nat) (A0_0 : Option Addr) (c0_0 : Nat) (l0_0 : List (S73)) (r : Bool) (w : World) (hr0_0 : Kd.C k73 w A0_0 l0_0.length l0_0) (hc0_0 : l0_0.length ≤ c0_0) (h : laws_FnExactGrammarOk.f k l0_0 = some r) :
  Calls Tryz.prog 3 #[.agg #[.slice A0_0 l0_0.length c0_0]] w fun e w' => e = .returned (.bool r) ∧ Below w.heap.size w w':=by
 have hu24:=Tryz.underlying24
 have hu29:=Tryz.underlying29
 have HR0_0:=zm_ hr0_0
 have HC0_0:=zm_ hc0_0
 clear hr0_0 hc0_0
 have HB:=zm_ (Below.refl w.heap.size w)
 have H : ((laws_szGrammar.f k l0_0 1048576).bind fun t491 => (if t491 < 0 then (some true) else ((laws_toGrammar.f k l0_0).bind fun t492 => ((spec_GrammarOk.f k t492).bind fun t495 => ((laws_toGrammar.f k l0_0).bind fun t496 => ((impl_GrammarOk.f k t496).bind fun t500 => (if (t500 != t495) = true then (none) else ((laws_toGrammar.f k l0_0).bind fun t501 => ((laws_eqGrammar.f k t496 t501).bind fun t504 => (if t504 = true then (some true) else (none))))))))))) = some r:=h
 clear h
 obtain ⟨t491,A2,H⟩:=zJ_ H
 try dsimp only at H
 by_cases c3 : t491 < 0
 ·rw [if_pos c3] at H
  have c3b0:=decide_eq_true c3
  clear c3
  obtain rfl:=zi_ H
  go_enter Tryz.func3,Tryz.ntmps3
  go_wp2_with (first|((with_reducible refine gate_dst (N:=1) rfl ?_);refine box_event ?hg (N:=1) ?hd (cs:=#[.slice A0_0 l0_0.length c0_0]) (t:=24) ?hr ?_;(case hd => rfl);(case hg => rfl);(case hr => first|(go_simp;done)|(go_simp;rfl));intro gb490 hg w4 hbox hb;have n0_:=zm_ (below_step zB_ hb);have n1_:=zm_ (hbox);have n2_:=zm_ ((by rw [hg];exact (below_size zB_) : w.heap.size ≤ gb490));have n3_:=zm_ ((by rw [hg];exact (below_size zB_) : w.heap.size ≤ gb490));clear HB;have HB:=n0_;have BK490:=n1_;have GW490:=n2_;have GE490:=n3_;clear n0_ n1_ n2_ n3_;clear hb hbox hg;have hcz5_0 : w4.cell? ⟨gb490,0,none⟩ = some (.slice A0_0 l0_0.length c0_0):=(zc_ BK490.out 0).trans rfl;have hfz5_0:=zf_ BK490.out 0)|((with_reducible refine gate_callee (f:=5) rfl ?_);refine goesL_ (some 9) rfl rfl Tryz.func5 (by kernel_rfl) rfl #[.agg #[.slice A0_0 l0_0.length c0_0],.int .i64 1048576] rfl zq_ ?_;(with_reducible refine (laws_szGrammar.calls k _ _ l0_0 1048576 t491 _ ?side1 ?side2 A2.out).mono ?_);(case side1 => exact zP_);(case side2 => exact HC0_0.out);rintro e w6 ⟨rfl,hb⟩;refine ⟨_,rfl,?_⟩;have n0_:=zm_ (blk_below (g:=gb490) (o:=.cells #[.slice A0_0 l0_0.length c0_0] 24 (0,0)) zK_ hb);have n1_:=zm_ (below_step zG_ hb);clear BK490;clear HB;have BK490:=n0_;have HB:=n1_;clear n0_ n1_;(try clear hb)))
  go_ret
  exact ⟨zE_,zG_⟩
 rw [if_neg c3] at H
 have c3b0:=decide_eq_false c3
 clear c3
 obtain ⟨t492,A7,H⟩:=zJ_ H
 try dsimp only at H
 obtain ⟨t495,A8,H⟩:=zJ_ H
 try dsimp only at H
 obtain ⟨t496,A9,H⟩:=zJ_ H
 try dsimp only at H
 obtain ⟨t500,A10,H⟩:=zJ_ H
 try dsimp only at H
 by_cases c11 : (t500 != t495) = true
 ·rw [if_pos c11] at H
  cases H
 rw [if_neg c11] at H
 have c11b0 : (t500 != t495) = false:=by simpa using c11
 (try (have c11b1 : decide (t500 = t495) = true:=by simpa using c11))
 (try (have c11b2 : (t500 == t495) = true:=by simpa using c11))
 clear c11
 obtain ⟨t501,A12,H⟩:=zJ_ H
 try dsimp only at H
 obtain ⟨t504,A13,H⟩:=zJ_ H
 try dsimp only at H
 by_cases c14 : t504 = true
 rotate_left
 ·replace c14:=Bool.eq_false_iff.mpr c14
  subst c14
  rw [zF_] at H
  cases H


 subst c14
 rw [if_pos rfl] at H
 obtain rfl:=zi_ H
 go_enter Tryz.func3,Tryz.ntmps3
 try go_wp2_with (first|((with_reducible refine gate_dst (N:=1) rfl ?_);refine box_event ?hg (N:=1) ?hd (cs:=#[.slice A0_0 l0_0.length c0_0]) (t:=24) ?hr ?_;(case hd => rfl);(case hg => rfl);(case hr => first|(go_simp;done)|(go_simp;rfl));intro gb490 hg w15 hbox hb;have n0_:=zm_ (below_step zB_ hb);have n1_:=zm_ (hbox);have n2_:=zm_ ((by rw [hg];exact (below_size zB_) : w.heap.size ≤ gb490));have n3_:=zm_ ((by rw [hg];exact (below_size zB_) : w.heap.size ≤ gb490));clear HB;have HB:=n0_;have BK490:=n1_;have GW490:=n2_;have GE490:=n3_;clear n0_ n1_ n2_ n3_;clear hb hbox hg;have hcz16_0 : w15.cell? ⟨gb490,0,none⟩ = some (.slice A0_0 l0_0.length c0_0):=(zc_ BK490.out 0).trans rfl;have hfz16_0:=zf_ BK490.out 0)|((with_reducible refine gate_callee (f:=5) rfl ?_);refine goesL_ (some 9) rfl rfl Tryz.func5 (by kernel_rfl) rfl #[.agg #[.slice A0_0 l0_0.length c0_0],.int .i64 1048576] rfl zq_ ?_;(with_reducible refine (laws_szGrammar.calls k _ _ l0_0 1048576 t491 _ ?side1 ?side2 A2.out).mono ?_);(case side1 => exact zP_);(case side2 => exact HC0_0.out);rintro e w17 ⟨rfl,hb⟩;refine ⟨_,rfl,?_⟩;have n0_:=zm_ (blk_below (g:=gb490) (o:=.cells #[.slice A0_0 l0_0.length c0_0] 24 (0,0)) zK_ hb);have n1_:=zm_ (below_step zG_ hb);clear BK490;clear HB;have BK490:=n0_;have HB:=n1_;clear n0_ n1_;(try clear hb);have hcz18_0 : w17.cell? ⟨gb490,0,none⟩ = some (.slice A0_0 l0_0.length c0_0):=(zc_ BK490.out 0).trans rfl;have hfz18_0:=zf_ BK490.out 0)|((with_reducible refine gate_callee (f:=7) rfl ?_);refine goesL_ (some 13) rfl rfl Tryz.func7 (by kernel_rfl) rfl #[.agg #[.slice A0_0 l0_0.length c0_0]] rfl zq_ ?_;(with_reducible refine (laws_toGrammar.calls k _ _ l0_0 t492 _ ?side1 ?side2 A7.out).mono ?_);(case side1 => exact zP_);(case side2 => exact HC0_0.out);rintro e w19 ⟨v493,rfl,ho0,hb⟩;refine ⟨_,rfl,?_⟩;have n0_:=zm_ (Kd.R_lower ho0 (below_size zG_));have n1_:=zm_ (blk_below (g:=gb490) (o:=.cells #[.slice A0_0 l0_0.length c0_0] 24 (0,0)) zK_ hb);have n2_:=zm_ (below_step zG_ hb);clear BK490;clear HB;have HO494:=n0_;have BK490:=n1_;have HB:=n2_;clear n0_ n1_ n2_;(try clear hb);(try clear hb2);(try clear hk);(try clear hi);(try clear ho0);obtain ⟨Ao20,co20,eo20⟩:=Kd.R_slice HO494.out;subst eo20)|((with_reducible refine gate_callee (f:=6) rfl ?_);refine goesL_ (some 14) rfl rfl Tryz.func6 (by kernel_rfl) rfl #[.agg #[.slice Ao20 t492.length co20]] rfl zq_ ?_;(with_reducible refine (spec_GrammarOk.calls k _ _ t492 t495 _ ?side1 ?side2 A8.out).mono ?_);(case side1 => repeat (first|exact (Kd.R_reads' HO494.out).2.2|(with_reducible refine Kd.C_alloc ?_ _)|(with_reducible refine Kd.C_drewN ?_ _)|(with_reducible refine Kd.C_drew ?_)));(case side2 => exact (Kd.R_reads' HO494.out).2.1);rintro e w21 ⟨rfl,hb⟩;refine ⟨_,rfl,?_⟩;have n0_:=zm_ (Kd.R_below zO_ hb);have n1_:=zm_ (blk_below (g:=gb490) (o:=.cells #[.slice A0_0 l0_0.length c0_0] 24 (0,0)) zK_ hb);have n2_:=zm_ (below_step zG_ hb);clear HO494;clear BK490;clear HB;have HO494:=n0_;have BK490:=n1_;have HB:=n2_;clear n0_ n1_ n2_;(try clear hb);have hcz22_0 : w21.cell? ⟨gb490,0,none⟩ = some (.slice A0_0 l0_0.length c0_0):=(zc_ BK490.out 0).trans rfl;have hfz22_0:=zf_ BK490.out 0)|((with_reducible refine gate_callee (f:=7) rfl ?_);refine goesL_ (some 16) rfl rfl Tryz.func7 (by kernel_rfl) rfl #[.agg #[.slice A0_0 l0_0.length c0_0]] rfl zq_ ?_;(with_reducible refine (laws_toGrammar.calls k _ _ l0_0 t496 _ ?side1 ?side2 A9.out).mono ?_);(case side1 => exact zP_);(case side2 => exact HC0_0.out);rintro e w23 ⟨v497,rfl,ho0,hb⟩;refine ⟨_,rfl,?_⟩;have n0_:=zm_ (Kd.R_elder' zO_ (Kd.R_base ho0) hb);have n1_:=zm_ (Kd.R_lower (Kd.R_new' ho0 (Kd.R_lt zO_)) (below_size zG_));have n2_:=zm_ (blk_below (g:=gb490) (o:=.cells #[.slice A0_0 l0_0.length c0_0] 24 (0,0)) zK_ hb);have n3_:=zm_ (below_step zG_ hb);clear HO494;clear BK490;clear HB;have HO494:=n0_;have HO498:=n1_;have BK490:=n2_;have HB:=n3_;clear n0_ n1_ n2_ n3_;(try clear hb);(try clear hb2);(try clear hk);(try clear hi);(try clear ho0))|((with_reducible refine gate_dst (N:=5) rfl ?_);refine box_event ?hg (N:=5) ?hd (cs:=#[.slice none 0 0]) (t:=29) ?hr ?_;(case hd => rfl);(case hg => rfl);(case hr => first|(go_simp;done)|(go_simp;rfl));intro gb499 hg w24 hbox hb;have n0_:=zm_ (Kd.R_below zO_ hb);have n1_:=zm_ (Kd.R_below zO_ hb);have n2_:=zm_ (blk_below (g:=gb490) (o:=.cells #[.slice A0_0 l0_0.length c0_0] 24 (0,0)) zK_ hb);have n3_:=zm_ (below_step zG_ hb);have n4_:=zm_ (hbox);have n5_:=zm_ ((by rw [hg];exact (below_size zG_) : w.heap.size ≤ gb499));have n6_:=zm_ ((by rw [hg];exact (below_size zG_) : w.heap.size ≤ gb499));have n7_:=zm_ ((by rw [hg];exact Nat.ne_of_lt (blk_lt (g:=gb490) (o:=.cells #[.slice A0_0 l0_0.length c0_0] 24 (0,0)) zK_) : gb490 ≠ gb499));have n8_:=zm_ ((by rw [hg];exact Nat.ne_of_gt (blk_lt (g:=gb490) (o:=.cells #[.slice A0_0 l0_0.length c0_0] 24 (0,0)) zK_) : gb499 ≠ gb490));clear HO494;clear HO498;clear BK490;clear HB;have HO494:=n0_;have HO498:=n1_;have BK490:=n2_;have HB:=n3_;have BK499:=n4_;have GW499:=n5_;have GE499:=n6_;have NB490_499:=n7_;have NB499_490:=n8_;clear n0_ n1_ n2_ n3_ n4_ n5_ n6_ n7_ n8_;clear hb hbox hg;obtain ⟨Ao25,co25,eo25⟩:=Kd.R_slice HO498.out;subst eo25;have hnb26:=NB499_490.out;have hnc26:=NB490_499.out;have hcz27_0 : w24.cell? ⟨gb499,0,none⟩ = some (.slice none 0 0):=(zc_ BK499.out 0).trans rfl;have hfz27_0:=zf_ BK499.out 0)|((with_reducible refine gate_callee (f:=8) rfl ?_);refine goesL_ (some 18) rfl rfl Tryz.func8 (by kernel_rfl) rfl #[.agg #[.slice Ao25 t496.length co25]] rfl zq_ ?_;(with_reducible refine (impl_GrammarOk.calls k _ _ t496 t500 _ ?side1 ?side2 A10.out).mono ?_);(case side1 => refine (Kd.R_reads' (e:=49) (base:=w.heap.size) (ok:=fun k_ => (True ∧ some k_ ≠ (.slice Ao20 t492.length co20 : Value).ownBlock)) (n:=t496.length) (c:=co25) ?_).2.2;exact zt22_7);(case side2 => exact (Kd.R_reads' HO498.out).2.1);rintro e w28 ⟨rfl,hb⟩;refine ⟨_,rfl,?_⟩;have n0_:=zm_ (Kd.R_below (by (with_reducible repeat (first|apply Kd.R_alloc|apply Kd.R_drewN|apply Kd.R_drew));exact (Kd.R_mono (Kd.R_far (p:=⟨gb499,0,none⟩) (Kd.R_types HO494.out BK499.out (by decide)) (fun _ hk => hk.2) (.slice Ao25 t496.length co25)) (fun _ h_ => h_.1))) hb);have n1_:=zm_ (Kd.R_below zt22_7 hb);have n2_:=zm_ (blk_below (g:=gb490) (o:=.cells #[.slice A0_0 l0_0.length c0_0] 24 (0,0)) (by (with_reducible repeat first|refine zl_ ?_ _|refine zr_ ?_|refine zk_ ?_ _);refine blk_far ?_ NB490_499.out _;(with_reducible repeat first|refine zl_ ?_ _|refine zr_ ?_|refine zk_ ?_ _);exact BK490.out) hb);have n3_:=zm_ (blk_below (g:=gb499) (o:=.cells #[.slice Ao25 t496.length co25] 29 (0,0)) (by (with_reducible repeat first|refine zl_ ?_ _|refine zr_ ?_|refine zk_ ?_ _);refine blk_put (cs:=#[.slice none 0 0]) ?_ 0 _ rfl;(with_reducible repeat first|refine zl_ ?_ _|refine zr_ ?_|refine zk_ ?_ _);exact BK499.out) hb);have n4_:=zm_ (below_step zG_ hb);clear HO494;clear HO498;clear BK490;clear BK499;clear HB;have HO494:=n0_;have HO498:=n1_;have BK490:=n2_;have BK499:=n3_;have HB:=n4_;clear n0_ n1_ n2_ n3_ n4_;(try clear hb)))
 have n0_:=zm_ (Kd.R_drew HO494.out)
 have n1_:=zm_ (Kd.R_drew HO498.out)
 have n2_:=zm_ (zr_ BK490.out)
 have n3_:=zm_ (zr_ BK499.out)
 have n4_:=zm_ (zd_ HB.out)
 clear HO494
 clear HO498
 clear BK490
 clear BK499
 clear HB
 have HO494:=n0_
 have HO498:=n1_
 have BK490:=n2_
 have BK499:=n3_
 have HB:=n4_
 clear n0_ n1_ n2_ n3_ n4_
 refine start_ (n:=5) (S:=fun w' => w'.cell? ⟨gb499,0,none⟩ = some (.slice Ao25 t496.length co25) ∧ w'.cell? ⟨gb490,0,none⟩ = some (.slice A0_0 l0_0.length c0_0)) (ds:=[]) #[false,false,false,false,false] (by kernel_rfl) rfl rfl ⟨(zc_ BK499.out 0).trans rfl,(zc_ BK490.out 0).trans rfl⟩ (fun hHeld => ?_)
 generalize w28.drew = w29 at HO494 HO498 BK490 BK499 HB hHeld ⊢
 refine take_ (i:=0) (N:=some 22) (v:=?_) (a':=?_) #[true,false,false,false,false] rfl rfl (by kernel_rfl) (fun _ _ _ h => h) (Or.inl ⟨by rfl,?_⟩) hHeld ?_ ?_
 rotate_left
 ·rintro w' ⟨s0,s1⟩
  go_simp
  with_reducible rfl
 rotate_left
 ·simp only [Act.put,List.setIfInBounds_toArray,List.set_cons_zero,List.set_cons_succ,i64_w,i32_w,IntKind.wrap_u8]
  rfl
 refine take_ (i:=1) (N:=some 23) (v:=?_) (a':=?_) #[true,true,false,false,false] rfl rfl (by kernel_rfl) (fun _ _ _ h => h) (Or.inl ⟨by rfl,?_⟩) hHeld ?_ ?_
 rotate_left
 ·rintro w' ⟨s0,s1⟩
  go_simp
  with_reducible rfl
 rotate_left
 ·simp only [Act.put,List.setIfInBounds_toArray,List.set_cons_zero,List.set_cons_succ,i64_w,i32_w,IntKind.wrap_u8]
  rfl
 refine one_ (i:=2) (N:=some 24) #[true,true,true,false,false] rfl rfl (by kernel_rfl) (by decide) (fun K hK => ?_)
 refine goes_ Tryz.func7 (by kernel_rfl) rfl #[.agg #[.slice A0_0 l0_0.length c0_0]] (by rfl) rfl rfl zq_ ?_
 with_reducible refine (laws_toGrammar.calls k _ _ l0_0 t501 _ ?side1 ?side2 A12.out).mono ?_
 (case side1 => exact zP_)
 (case side2 => exact HC0_0.out)
 rintro e w30 ⟨v502,rfl,ho0,hb⟩
 refine ⟨_,rfl,?_⟩
 have n0_:=zm_ (Kd.R_elder' zO_ (Kd.R_base ho0) hb)
 have n1_:=zm_ (Kd.R_elder' zO_ (Kd.R_base ho0) hb)
 have n2_:=zm_ (Kd.R_lower (Kd.R_new' (Kd.R_new' ho0 (Kd.R_lt zO_)) (Kd.R_lt zO_)) (below_size zG_))
 have n3_:=zm_ (blk_below (g:=gb490) (o:=.cells #[.slice A0_0 l0_0.length c0_0] 24 (0,0)) zK_ hb)
 have n4_:=zm_ (blk_below (g:=gb499) (o:=.cells #[.slice Ao25 t496.length co25] 29 (0,0)) zK_ hb)
 have n5_:=zm_ (below_step zG_ hb)
 clear HO494
 clear HO498
 clear BK490
 clear BK499
 clear HB
 have HO494:=n0_
 have HO498:=n1_
 have HO503:=n2_
 have BK490:=n3_
 have BK499:=n4_
 have HB:=n5_
 clear n0_ n1_ n2_ n3_ n4_ n5_
 (try clear hb)
 (try clear hb2)
 (try clear hk)
 (try clear hi)
 (try clear ho0)
 obtain ⟨Ao31,co31,eo31⟩:=Kd.R_slice HO503.out
 (first|subst eo31|(injection eo31 with f1_ f2_ f3_;have f4_:=f1_.symm;have f5_:=f3_.symm;clear f1_ f2_ f3_;subst f4_;subst f5_))
 refine hK.out _ _ ⟨(zc_ BK499.out 0).trans rfl,(zc_ BK490.out 0).trans rfl⟩ (fun hHeld => ?_)
 clear hK K
 refine zm2_ ?_
 refine one_ (i:=3) (N:=some 25) #[true,true,true,true,false] rfl rfl (by kernel_rfl) (by decide) (fun K hK => ?_)
 refine goes_ Tryz.func9 (by kernel_rfl) rfl #[.agg #[.slice Ao25 t496.length co25],.agg #[.slice Ao31 t501.length co31]] (by rfl) rfl rfl zq_ ?_
 with_reducible refine (laws_eqGrammar.calls k _ _ t496 _ _ t501 true _ ?side1 ?side2 ?side3 ?side4 A13.out).mono ?_
 (case side1 => repeat (first|exact (Kd.R_reads' HO498.out).2.2|(with_reducible refine Kd.C_alloc ?_ _)|(with_reducible refine Kd.C_drewN ?_ _)|(with_reducible refine Kd.C_drew ?_)))
 (case side2 => exact (Kd.R_reads' HO498.out).2.1)
 (case side3 => repeat (first|exact (Kd.R_reads' HO503.out).2.2|(with_reducible refine Kd.C_alloc ?_ _)|(with_reducible refine Kd.C_drewN ?_ _)|(with_reducible refine Kd.C_drew ?_)))
 (case side4 => exact (Kd.R_reads' HO503.out).2.1)
 rintro e w32 ⟨rfl,hb⟩
 refine ⟨_,rfl,?_⟩
 have n0_:=zm_ (Kd.R_below zO_ hb)
 have n1_:=zm_ (Kd.R_below zO_ hb)
 have n2_:=zm_ (Kd.R_below (by (with_reducible repeat (first|apply Kd.R_alloc|apply Kd.R_drewN|apply Kd.R_drew));exact HO503.out) hb)
 have n3_:=zm_ (blk_below (g:=gb490) (o:=.cells #[.slice A0_0 l0_0.length c0_0] 24 (0,0)) zK_ hb)
 have n4_:=zm_ (blk_below (g:=gb499) (o:=.cells #[.slice Ao25 t496.length co25] 29 (0,0)) zK_ hb)
 have n5_:=zm_ (below_step zG_ hb)
 clear HO494
 clear HO498
 clear HO503
 clear BK490
 clear BK499
 clear HB
 have HO494:=n0_
 have HO498:=n1_
 have HO503:=n2_
 have BK490:=n3_
 have BK499:=n4_
 have HB:=n5_
 clear n0_ n1_ n2_ n3_ n4_ n5_
 (try clear hb)
 (try clear hb2)
 (try clear hk)
 (try clear hi)
 refine hK.out _ _ ⟨(zc_ BK499.out 0).trans rfl,(zc_ BK490.out 0).trans rfl⟩ (fun hHeld => ?_)
 clear hK K
 refine zm2_ ?_
 refine pure_ (i:=4) (N:=some 26) (v:=?_) (a':=?_) #[true,true,true,true,true] rfl rfl (by kernel_rfl) (fun _ _ _ h => h) (Or.inl ⟨by rfl,?_⟩) ?_ ?_
 rotate_left
 ·intro w'
  go_simp
  with_reducible rfl
 rotate_left
 ·simp only [Act.put,List.setIfInBounds_toArray,List.set_cons_zero,List.set_cons_succ,i64_w,i32_w,IntKind.wrap_u8]
  rfl
 refine done_ (by kernel_rfl) ?_
 try go_wp2
 go_ret
 exact ⟨zE_,zG_⟩
end Go.Proofs.YtkbgmojomgelbaaGreat.MFnExactGrammarOk
