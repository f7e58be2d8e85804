import Derived.Test.YtkbgmojomgelbaaGreatMFnExactGrammarOkx0
import Derived.Test.YtkbgmojomgelbaaGreatMFnExactGrammarOkx19
import Derived.Test.YtkbgmojomgelbaaGreatMFnExactGrammarOkx20
namespace Go.Proofs.YtkbgmojomgelbaaGreat.MFnExactGrammarOk
open Go.RowKit Go.Proofs.YtkbgmojomgelbaaGreatW.PrintWords Go.Proofs.YtkbgmojomgelbaaGreatW.PrintLast Go.Proofs.YtkbgmojomgelbaaGreatW.PrintMore
attribute [local go_sem] max2_int min2_int max_two min_two max_three min_three max_four min_four
set_option linter.unusedVariables false
set_option linter.unusedSimpArgs false
set_option maxHeartbeats 8000000
set_option maxRecDepth 100000

def laws_eqSymS.l0 : Nat → List (S76) → List (S76) → Int → Option (Bool)
 |0,_,_,_ => none
 |k + 1,x0,x1,x5 => if x5 < (x0.length : Int) then (if 0 ≤ x5 then (if x5 < (x1.length : Int) then ((laws_eqSym.f k ((rd_T76 x0 x5).f0) ((rd_T76 x0 x5).f1) ((rd_T76 x0 x5).f2) ((rd_T76 x0 x5).f3) ((rd_T76 x1 x5).f0) ((rd_T76 x1 x5).f1) ((rd_T76 x1 x5).f2) ((rd_T76 x1 x5).f3)).bind fun t473 => (if t473 = true then (laws_eqSymS.l0 k x0 x1 (wrap64 (x5 + 1))) else (none))) else (none)) else (none)) else (some true)
def laws_eqSymS.f (k : Nat) (l0 : List (S76)) (l1 : List (S76)) : Option (Bool):=if (l0.length : Int) = (l1.length : Int) then (laws_eqSymS.l0 k l0 l1 0) else (none)
def laws_eqSymS.T6 : Bool × List (List Nat × List Nat):=(true,[([],[]),([],[]),([0,1],[0,1]),([2],[2]),([],[]),([],[]),([4,5],[4,5]),([6],[6]),([3,7],[3,7]),([8],[8])])
def laws_eqSymS.B6 : List Nat:=[0,0,3,7,0,0,48,112,255,511]
theorem laws_eqSymS.tab6 : rtab .any (opsOf Tryz.f127 6) = laws_eqSymS.T6:=by kernel_rfl
theorem laws_eqSymS.bits6 : waitsOk laws_eqSymS.T6.2 laws_eqSymS.B6 = true:=by kernel_rfl
theorem laws_eqSymS.calls (k : Nat) (A0 : Option Addr) (c0 : Nat) (l0 : List (S76)) (A1 : Option Addr) (c1 : Nat) (l1 : List (S76)) (r : Bool) (w : World) (hr0 : Kd.C k76 w A0 l0.length l0) (hc0 : l0.length ≤ c0) (hr1 : Kd.C k76 w A1 l1.length l1) (hc1 : l1.length ≤ c1) (h : laws_eqSymS.f k l0 l1 = some r) :
  Calls Tryz.prog 127 #[.slice A0 l0.length c0,.slice A1 l1.length c1] w fun e w' => e = .returned (.bool r) ∧ Below w.heap.size w w':=by
 have hu76:=Tryz.underlying76
 have HR0:=zm_ hr0
 have HC0:=zm_ hc0
 clear hr0 hc0
 have HR1:=zm_ hr1
 have HC1:=zm_ hc1
 clear hr1 hc1
 have HB:=zm_ (Below.refl w.heap.size w)
 have H : (if (l0.length : Int) = (l1.length : Int) then (laws_eqSymS.l0 k l0 l1 0) else (none)) = some r:=h
 clear h
 by_cases c3 : (l0.length : Int) = (l1.length : Int)
 rotate_left
 ·rw [if_neg c3] at H
  cases H


 rw [if_pos c3] at H
 have c3b0 : ((l0.length : Int) == (l1.length : Int)) = true:=beq_iff_eq.mpr c3
 have c3b1 : ((l0.length : Int) != (l1.length : Int)) = false:=bne_eq_false_iff_eq.mpr c3
 have c3b2 : (l0.length == l1.length) = true:=by first|simpa using c3|(simp at c3 ⊢;omega)
 clear c3
 have H':=zm_ H
 clear H
 go_enter Tryz.func127,Tryz.ntmps127
 go_wp2
 go_loopg [5] k (fun kq v5 w' => ∃ (x5_1 : Int),v5 = .int .i64 x5_1 ∧ Aside0 (laws_eqSymS.l0 kq l0 l1 x5_1 = some r) ∧ Aside0 (kq ≤ k) ∧ Aside0 (Below w.heap.size w w'))
 case atStart => exact ⟨(0),zV_,H',⟨Nat.le_refl _⟩,⟨zG_⟩⟩
 case round =>
  clear H'
  obtain ⟨x5_1,rfl,HA,HK1,HB⟩:=hrel
  cases gk with
  |zero => exact absurd HA.out (by simp [laws_eqSymS.l0])
  |succ k1 =>
   have H:=HA.out
   clear HA
   simp only [laws_eqSymS.l0] at H
   by_cases c4 : x5_1 < (l0.length : Int)
   rotate_left
   ·rw [if_neg c4] at H
    have c4b0:=decide_eq_false c4
    clear c4
    obtain rfl:=zi_ H
    go_wp2
    go_ret
    exact ⟨zE_,zG_⟩
   rw [if_pos c4] at H
   have c4b0:=decide_eq_true c4
   clear c4
   by_cases c5 : 0 ≤ x5_1
   rotate_left
   ·rw [if_neg c5] at H
    cases H
   rw [if_pos c5] at H
   have c5b0:=decide_eq_true c5
   clear c5
   by_cases c6 : x5_1 < (l1.length : Int)
   rotate_left
   ·rw [if_neg c6] at H
    cases H
   rw [if_pos c6] at H
   have c6b0:=decide_eq_true c6
   clear c6
   obtain ⟨t473,A7,H⟩:=zJ_ H
   try dsimp only at H
   by_cases c8 : t473 = true
   rotate_left
   ·replace c8:=Bool.eq_false_iff.mpr c8
    subst c8
    rw [zF_] at H
    cases H
   subst c8
   rw [if_pos rfl] at H
   have H':=zm_ H
   clear H
   try go_wp2
   have n0_:=zm_ (zd_ HB.out)
   clear HB
   have HB:=n0_
   clear n0_
   have p471 : 0 ≤ (x5_1 : Int):=zo_
   have q471 : x5_1 < (l0.length : Int):=zo_
   obtain ⟨ad471,A471_2,c471_2,e471,hx471_0,hx471_1,hx471_2,hx471_3,hl471_2,hi471_2⟩:=at_T76 HR0.out x5_1 p471 q471
   have hw471_3:=hx471_3
   have hw471_2:=hx471_2
   have hw471_1:=hx471_1
   have hw471_0:=hx471_0
   cases e471
   replace hx471_0:=(HB.out.cell (zb_ w _ hx471_0)).trans hx471_0
   replace hx471_1:=(HB.out.cell (zb_ w _ hx471_1)).trans hx471_1
   replace hx471_2:=(HB.out.cell (zb_ w _ hx471_2)).trans hx471_2
   replace hx471_3:=(HB.out.cell (zb_ w _ hx471_3)).trans hx471_3
   have HR471_2:=zm_ hi471_2
   have HC471_2:=zm_ hl471_2
   clear hi471_2 hl471_2
   replace p471:=eq_true p471
   replace q471:=eq_true q471
   have p472 : 0 ≤ (x5_1 : Int):=zo_
   have q472 : x5_1 < (l1.length : Int):=zo_
   obtain ⟨ad472,A472_2,c472_2,e472,hx472_0,hx472_1,hx472_2,hx472_3,hl472_2,hi472_2⟩:=at_T76 HR1.out x5_1 p472 q472
   have hw472_3:=hx472_3
   have hw472_2:=hx472_2
   have hw472_1:=hx472_1
   have hw472_0:=hx472_0
   cases e472
   replace hx472_0:=(HB.out.cell (zb_ w _ hx472_0)).trans hx472_0
   replace hx472_1:=(HB.out.cell (zb_ w _ hx472_1)).trans hx472_1
   replace hx472_2:=(HB.out.cell (zb_ w _ hx472_2)).trans hx472_2
   replace hx472_3:=(HB.out.cell (zb_ w _ hx472_3)).trans hx472_3
   have HR472_2:=zm_ hi472_2
   have HC472_2:=zm_ hl472_2
   clear hi472_2 hl472_2
   replace p472:=eq_true p472
   replace q472:=eq_true q472
   refine start_ (n:=10) (S:=fun w' => w'.cell? (ad471.add ((x5_1).toNat * 4)) = some (.int .i64 ((rd_T76 l0 x5_1).f0)) ∧ w'.cell? ⟨(ad471.add ((x5_1).toNat * 4)).block,(ad471.add ((x5_1).toNat * 4)).off + 1,none⟩ = some (.string ((rd_T76 l0 x5_1).f1)) ∧ w'.cell? ⟨(ad471.add ((x5_1).toNat * 4)).block,(ad471.add ((x5_1).toNat * 4)).off + 2,none⟩ = some (.slice A471_2 ((rd_T76 l0 x5_1).f2).length c471_2) ∧ w'.cell? ⟨(ad471.add ((x5_1).toNat * 4)).block,(ad471.add ((x5_1).toNat * 4)).off + 3,none⟩ = some (.string ((rd_T76 l0 x5_1).f3)) ∧ w'.cell? (ad472.add ((x5_1).toNat * 4)) = some (.int .i64 ((rd_T76 l1 x5_1).f0)) ∧ w'.cell? ⟨(ad472.add ((x5_1).toNat * 4)).block,(ad472.add ((x5_1).toNat * 4)).off + 1,none⟩ = some (.string ((rd_T76 l1 x5_1).f1)) ∧ w'.cell? ⟨(ad472.add ((x5_1).toNat * 4)).block,(ad472.add ((x5_1).toNat * 4)).off + 2,none⟩ = some (.slice A472_2 ((rd_T76 l1 x5_1).f2).length c472_2) ∧ w'.cell? ⟨(ad472.add ((x5_1).toNat * 4)).block,(ad472.add ((x5_1).toNat * 4)).off + 3,none⟩ = some (.string ((rd_T76 l1 x5_1).f3))) (ds:=[]) #[false,false,false,false,false,false,false,false,false,false] (by kernel_rfl) rfl rfl ⟨((HB.out.cell (zb_ w _ hw471_0)).trans hw471_0),((HB.out.cell (zb_ w _ hw471_1)).trans hw471_1),((HB.out.cell (zb_ w _ hw471_2)).trans hw471_2),((HB.out.cell (zb_ w _ hw471_3)).trans hw471_3),((HB.out.cell (zb_ w _ hw472_0)).trans hw472_0),((HB.out.cell (zb_ w _ hw472_1)).trans hw472_1),((HB.out.cell (zb_ w _ hw472_2)).trans hw472_2),((HB.out.cell (zb_ w _ hw472_3)).trans hw472_3)⟩ (fun hHeld => ?_);refine with_tabW laws_eqSymS.tab6 laws_eqSymS.bits6 (fun HT_ HW_ => ?_)
   generalize wr.drew = w9 at HB HR471_2 HR472_2 hx471_0 hx471_1 hx471_2 hx471_3 hx472_0 hx472_1 hx472_2 hx472_3 hHeld ⊢
   refine zp_ 0 (some 17) ?_
   refine zp_ 1 (some 18) ?_
   refine zp_ 2 (some 19) ?_
   refine zp_ 4 (some 21) ?_
   refine zp_ 5 (some 22) ?_
   refine zp_ 6 (some 23) ?_
   refine zk2_ 3 (some 20) ?_
   refine zk2_ 7 (some 24) ?_
   refine one_ (i:=8) (N:=some 25) #[true,true,true,true,true,true,true,true,true,false] rfl rfl (one_of HT_.out (by kernel_rfl)) (by decide) (fun K hK => ?_)
   refine goes_ Tryz.func139 (by kernel_rfl) rfl #[.agg #[.int .i64 ((rd_T76 l0 x5_1).f0),.string ((rd_T76 l0 x5_1).f1),.slice A471_2 ((rd_T76 l0 x5_1).f2).length c471_2,.string ((rd_T76 l0 x5_1).f3)],.agg #[.int .i64 ((rd_T76 l1 x5_1).f0),.string ((rd_T76 l1 x5_1).f1),.slice A472_2 ((rd_T76 l1 x5_1).f2).length c472_2,.string ((rd_T76 l1 x5_1).f3)]] (by rfl) rfl rfl zq_ ?_
   with_reducible refine (laws_eqSym.calls k1 ((rd_T76 l0 x5_1).f0) ((rd_T76 l0 x5_1).f1) _ _ ((rd_T76 l0 x5_1).f2) ((rd_T76 l0 x5_1).f3) ((rd_T76 l1 x5_1).f0) ((rd_T76 l1 x5_1).f1) _ _ ((rd_T76 l1 x5_1).f2) ((rd_T76 l1 x5_1).f3) true _ ?side1 ?side2 ?side3 ?side4 A7.out).mono ?_
   (case side1 => exact zP_)
   (case side2 => exact HC471_2.out)
   (case side3 => exact zP_)
   (case side4 => exact HC472_2.out)
   rintro e w10 ⟨rfl,hb⟩
   refine ⟨_,rfl,?_⟩
   have n0_:=zm_ (below_step zB_ hb)
   clear HB
   have HB:=n0_
   clear n0_
   (try clear hb)
   (try clear hb2)
   (try clear hk)
   (try clear hi)
   refine hK.out _ _ ⟨((HB.out.cell (zb_ w _ hw471_0)).trans hw471_0),((HB.out.cell (zb_ w _ hw471_1)).trans hw471_1),((HB.out.cell (zb_ w _ hw471_2)).trans hw471_2),((HB.out.cell (zb_ w _ hw471_3)).trans hw471_3),((HB.out.cell (zb_ w _ hw472_0)).trans hw472_0),((HB.out.cell (zb_ w _ hw472_1)).trans hw472_1),((HB.out.cell (zb_ w _ hw472_2)).trans hw472_2),((HB.out.cell (zb_ w _ hw472_3)).trans hw472_3)⟩ (fun hHeld => ?_)
   clear hK K
   refine zm2_ ?_
   refine zp_ 9 (some 26) ?_
   refine done_ (done_of HT_.out (by kernel_rfl)) ?_
   try go_wp2
   go_roundg k1
   case measure => have:=HK1.out;omega
   case rel => exact ⟨(wrap64 (x5_1 + 1)),zV_,H',⟨by have:=HK1.out;omega⟩,⟨zG_⟩⟩
def laws_eqAlt.f (k : Nat) (l0_0 : List (S76)) (l1_0 : List (S76)) : Option (Bool):=(laws_eqSymS.f k l0_0 l1_0).bind fun t476 => (if t476 = true then (some true) else (none))
theorem laws_eqAlt.calls (k : Nat) (A0_0 : Option Addr) (c0_0 : Nat) (l0_0 : List (S76)) (A1_0 : Option Addr) (c1_0 : Nat) (l1_0 : List (S76)) (r : Bool) (w : World) (hr0_0 : Kd.C k76 w A0_0 l0_0.length l0_0) (hc0_0 : l0_0.length ≤ c0_0) (hr1_0 : Kd.C k76 w A1_0 l1_0.length l1_0) (hc1_0 : l1_0.length ≤ c1_0) (h : laws_eqAlt.f k l0_0 l1_0 = some r) :
  Calls Tryz.prog 102 #[.agg #[.slice A0_0 l0_0.length c0_0],.agg #[.slice A1_0 l1_0.length c1_0]] w fun e w' => e = .returned (.bool r) ∧ Below w.heap.size w w':=by
 have hu57:=Tryz.underlying57
 have HR0_0:=zm_ hr0_0
 have HC0_0:=zm_ hc0_0
 clear hr0_0 hc0_0
 have HR1_0:=zm_ hr1_0
 have HC1_0:=zm_ hc1_0
 clear hr1_0 hc1_0
 have HB:=zm_ (Below.refl w.heap.size w)
 have H : ((laws_eqSymS.f k l0_0 l1_0).bind fun t476 => (if t476 = true then (some true) else (none))) = some r:=h
 clear h
 obtain ⟨t476,A3,H⟩:=zJ_ H
 try dsimp only at H
 by_cases c4 : t476 = true
 rotate_left
 ·replace c4:=Bool.eq_false_iff.mpr c4
  subst c4
  rw [zF_] at H
  cases H


 subst c4
 rw [if_pos rfl] at H
 obtain rfl:=zi_ H
 go_enter Tryz.func102,Tryz.ntmps102
 go_wp2_with (first|((with_reducible refine gate_dst (N:=2) rfl ?_);refine box_event ?hg (N:=2) ?hd (cs:=#[.slice A0_0 l0_0.length c0_0]) (t:=57) ?hr ?_;(case hd => rfl);(case hg => rfl);(case hr => first|(go_simp;done)|(go_simp;rfl));intro gb474 hg w5 hbox hb;have n0_:=zm_ (below_step zB_ hb);have n1_:=zm_ (hbox);have n2_:=zm_ ((by rw [hg];exact (below_size zB_) : w.heap.size ≤ gb474));have n3_:=zm_ ((by rw [hg];exact (below_size zB_) : w.heap.size ≤ gb474));clear HB;have HB:=n0_;have BK474:=n1_;have GW474:=n2_;have GE474:=n3_;clear n0_ n1_ n2_ n3_;clear hb hbox hg)|((with_reducible refine gate_dst (N:=3) rfl ?_);refine box_event ?hg (N:=3) ?hd (cs:=#[.slice A1_0 l1_0.length c1_0]) (t:=57) ?hr ?_;(case hd => rfl);(case hg => rfl);(case hr => first|(go_simp;done)|(go_simp;rfl));intro gb475 hg w6 hbox hb;have n0_:=zm_ (blk_below (g:=gb474) (o:=.cells #[.slice A0_0 l0_0.length c0_0] 57 (0,0)) zK_ hb);have n1_:=zm_ (below_step zG_ hb);have n2_:=zm_ (hbox);have n3_:=zm_ ((by rw [hg];exact (below_size zG_) : w.heap.size ≤ gb475));have n4_:=zm_ ((by rw [hg];exact (below_size zG_) : w.heap.size ≤ gb475));have n5_:=zm_ ((by rw [hg];exact Nat.ne_of_lt (blk_lt (g:=gb474) (o:=.cells #[.slice A0_0 l0_0.length c0_0] 57 (0,0)) zK_) : gb474 ≠ gb475));have n6_:=zm_ ((by rw [hg];exact Nat.ne_of_gt (blk_lt (g:=gb474) (o:=.cells #[.slice A0_0 l0_0.length c0_0] 57 (0,0)) zK_) : gb475 ≠ gb474));clear BK474;clear HB;have BK474:=n0_;have HB:=n1_;have BK475:=n2_;have GW475:=n3_;have GE475:=n4_;have NB474_475:=n5_;have NB475_474:=n6_;clear n0_ n1_ n2_ n3_ n4_ n5_ n6_;clear hb hbox hg;have hnb7:=NB474_475.out;have hnc7:=NB475_474.out;have hcz8_0 : w6.cell? ⟨gb474,0,none⟩ = some (.slice A0_0 l0_0.length c0_0):=(zc_ BK474.out 0).trans rfl;have hfz8_0:=zf_ BK474.out 0;have hcz9_0 : w6.cell? ⟨gb475,0,none⟩ = some (.slice A1_0 l1_0.length c1_0):=(zc_ BK475.out 0).trans rfl;have hfz9_0:=zf_ BK475.out 0)|((with_reducible refine gate_callee (f:=127) rfl ?_);refine goesL_ (some 9) rfl rfl Tryz.func127 (by kernel_rfl) rfl #[.slice A0_0 l0_0.length c0_0,.slice A1_0 l1_0.length c1_0] rfl zq_ ?_;(with_reducible refine (laws_eqSymS.calls k _ _ l0_0 _ _ l1_0 true _ ?side1 ?side2 ?side3 ?side4 A3.out).mono ?_);(case side1 => exact zP_);(case side2 => exact HC0_0.out);(case side3 => exact zP_);(case side4 => exact HC1_0.out);rintro e w10 ⟨rfl,hb⟩;refine ⟨_,rfl,?_⟩;have n0_:=zm_ (blk_below (g:=gb474) (o:=.cells #[.slice A0_0 l0_0.length c0_0] 57 (0,0)) zK_ hb);have n1_:=zm_ (blk_below (g:=gb475) (o:=.cells #[.slice A1_0 l1_0.length c1_0] 57 (0,0)) zK_ hb);have n2_:=zm_ (below_step zG_ hb);clear BK474;clear BK475;clear HB;have BK474:=n0_;have BK475:=n1_;have HB:=n2_;clear n0_ n1_ n2_;(try clear hb)))
 go_ret
 exact ⟨zE_,zG_⟩
def laws_eqAltS.l0 : Nat → List (S57) → List (S57) → Int → Option (Bool)
 |0,_,_,_ => none
 |k + 1,x0,x1,x5 => if x5 < (x0.length : Int) then (if 0 ≤ x5 then (if x5 < (x1.length : Int) then ((laws_eqAlt.f k ((rd_T57 x0 x5).f0) ((rd_T57 x1 x5).f0)).bind fun t479 => (if t479 = true then (laws_eqAltS.l0 k x0 x1 (wrap64 (x5 + 1))) else (none))) else (none)) else (none)) else (some true)
def laws_eqAltS.f (k : Nat) (l0 : List (S57)) (l1 : List (S57)) : Option (Bool):=if (l0.length : Int) = (l1.length : Int) then (laws_eqAltS.l0 k l0 l1 0) else (none)
def laws_eqAltS.T6 : Bool × List (List Nat × List Nat):=(true,[([],[]),([],[]),([0,1],[0,1]),([2],[2]),([],[]),([],[]),([4,5],[4,5]),([6],[6]),([3,7],[3,7]),([8],[8])])
def laws_eqAltS.B6 : List Nat:=[0,0,3,7,0,0,48,112,255,511]
theorem laws_eqAltS.tab6 : rtab .any (opsOf Tryz.f78 6) = laws_eqAltS.T6:=by kernel_rfl
theorem laws_eqAltS.bits6 : waitsOk laws_eqAltS.T6.2 laws_eqAltS.B6 = true:=by kernel_rfl
theorem laws_eqAltS.calls (k : Nat) (A0 : Option Addr) (c0 : Nat) (l0 : List (S57)) (A1 : Option Addr) (c1 : Nat) (l1 : List (S57)) (r : Bool) (w : World) (hr0 : Kd.C k57 w A0 l0.length l0) (hc0 : l0.length ≤ c0) (hr1 : Kd.C k57 w A1 l1.length l1) (hc1 : l1.length ≤ c1) (h : laws_eqAltS.f k l0 l1 = some r) :
  Calls Tryz.prog 78 #[.slice A0 l0.length c0,.slice A1 l1.length c1] w fun e w' => e = .returned (.bool r) ∧ Below w.heap.size w w':=by
 have hu57:=Tryz.underlying57
 have HR0:=zm_ hr0
 have HC0:=zm_ hc0
 clear hr0 hc0
 have HR1:=zm_ hr1
 have HC1:=zm_ hc1
 clear hr1 hc1
 have HB:=zm_ (Below.refl w.heap.size w)
 have H : (if (l0.length : Int) = (l1.length : Int) then (laws_eqAltS.l0 k l0 l1 0) else (none)) = some r:=h
 clear h
 by_cases c3 : (l0.length : Int) = (l1.length : Int)
 rotate_left
 ·rw [if_neg c3] at H
  cases H


 rw [if_pos c3] at H
 have c3b0 : ((l0.length : Int) == (l1.length : Int)) = true:=beq_iff_eq.mpr c3
 have c3b1 : ((l0.length : Int) != (l1.length : Int)) = false:=bne_eq_false_iff_eq.mpr c3
 have c3b2 : (l0.length == l1.length) = true:=by first|simpa using c3|(simp at c3 ⊢;omega)
 clear c3
 have H':=zm_ H
 clear H
 go_enter Tryz.func78,Tryz.ntmps78
 go_wp2
 go_loopg [5] k (fun kq v5 w' => ∃ (x5_1 : Int),v5 = .int .i64 x5_1 ∧ Aside0 (laws_eqAltS.l0 kq l0 l1 x5_1 = some r) ∧ Aside0 (kq ≤ k) ∧ Aside0 (Below w.heap.size w w'))
 case atStart => exact ⟨(0),zV_,H',⟨Nat.le_refl _⟩,⟨zG_⟩⟩
 case round =>
  clear H'
  obtain ⟨x5_1,rfl,HA,HK1,HB⟩:=hrel
  cases gk with
  |zero => exact absurd HA.out (by simp [laws_eqAltS.l0])
  |succ k1 =>
   have H:=HA.out
   clear HA
   simp only [laws_eqAltS.l0] at H
   by_cases c4 : x5_1 < (l0.length : Int)
   rotate_left
   ·rw [if_neg c4] at H
    have c4b0:=decide_eq_false c4
    clear c4
    obtain rfl:=zi_ H
    go_wp2
    go_ret
    exact ⟨zE_,zG_⟩
   rw [if_pos c4] at H
   have c4b0:=decide_eq_true c4
   clear c4
   by_cases c5 : 0 ≤ x5_1
   rotate_left
   ·rw [if_neg c5] at H
    cases H
   rw [if_pos c5] at H
   have c5b0:=decide_eq_true c5
   clear c5
   by_cases c6 : x5_1 < (l1.length : Int)
   rotate_left
   ·rw [if_neg c6] at H
    cases H
   rw [if_pos c6] at H
   have c6b0:=decide_eq_true c6
   clear c6
   obtain ⟨t479,A7,H⟩:=zJ_ H
   try dsimp only at H
   by_cases c8 : t479 = true
   rotate_left
   ·replace c8:=Bool.eq_false_iff.mpr c8
    subst c8
    rw [zF_] at H
    cases H
   subst c8
   rw [if_pos rfl] at H
   have H':=zm_ H
   clear H
   try go_wp2
   have n0_:=zm_ (zd_ HB.out)
   clear HB
   have HB:=n0_
   clear n0_
   have p477 : 0 ≤ (x5_1 : Int):=zo_
   have q477 : x5_1 < (l0.length : Int):=zo_
   obtain ⟨ad477,A477_0,c477_0,e477,hx477_0,hl477_0,hi477_0⟩:=at_T57 HR0.out x5_1 p477 q477
   have hw477_0:=hx477_0
   cases e477
   replace hx477_0:=(HB.out.cell (zb_ w _ hx477_0)).trans hx477_0
   have HR477_0:=zm_ hi477_0
   have HC477_0:=zm_ hl477_0
   clear hi477_0 hl477_0
   replace p477:=eq_true p477
   replace q477:=eq_true q477
   have p478 : 0 ≤ (x5_1 : Int):=zo_
   have q478 : x5_1 < (l1.length : Int):=zo_
   obtain ⟨ad478,A478_0,c478_0,e478,hx478_0,hl478_0,hi478_0⟩:=at_T57 HR1.out x5_1 p478 q478
   have hw478_0:=hx478_0
   cases e478
   replace hx478_0:=(HB.out.cell (zb_ w _ hx478_0)).trans hx478_0
   have HR478_0:=zm_ hi478_0
   have HC478_0:=zm_ hl478_0
   clear hi478_0 hl478_0
   replace p478:=eq_true p478
   replace q478:=eq_true q478
   refine start_ (n:=10) (S:=fun w' => w'.cell? (ad477.add (x5_1).toNat) = some (.slice A477_0 ((rd_T57 l0 x5_1).f0).length c477_0) ∧ w'.cell? (ad478.add (x5_1).toNat) = some (.slice A478_0 ((rd_T57 l1 x5_1).f0).length c478_0)) (ds:=[]) #[false,false,false,false,false,false,false,false,false,false] (by kernel_rfl) rfl rfl ⟨((HB.out.cell (zb_ w _ hw477_0)).trans hw477_0),((HB.out.cell (zb_ w _ hw478_0)).trans hw478_0)⟩ (fun hHeld => ?_);refine with_tabW laws_eqAltS.tab6 laws_eqAltS.bits6 (fun HT_ HW_ => ?_)
   generalize wr.drew = w9 at HB HR477_0 HR478_0 hx477_0 hx478_0 hHeld ⊢
   refine zp_ 0 (some 17) ?_
   refine zp_ 1 (some 18) ?_
   refine zp_ 2 (some 19) ?_
   refine zp_ 4 (some 21) ?_
   refine zp_ 5 (some 22) ?_
   refine zp_ 6 (some 23) ?_
   refine zk2_ 3 (some 20) ?_
   refine zk2_ 7 (some 24) ?_
   refine one_ (i:=8) (N:=some 25) #[true,true,true,true,true,true,true,true,true,false] rfl rfl (one_of HT_.out (by kernel_rfl)) (by decide) (fun K hK => ?_)
   refine goes_ Tryz.func102 (by kernel_rfl) rfl #[.agg #[.slice A477_0 ((rd_T57 l0 x5_1).f0).length c477_0],.agg #[.slice A478_0 ((rd_T57 l1 x5_1).f0).length c478_0]] (by rfl) rfl rfl zq_ ?_
   with_reducible refine (laws_eqAlt.calls k1 _ _ ((rd_T57 l0 x5_1).f0) _ _ ((rd_T57 l1 x5_1).f0) true _ ?side1 ?side2 ?side3 ?side4 A7.out).mono ?_
   (case side1 => exact zP_)
   (case side2 => exact HC477_0.out)
   (case side3 => exact zP_)
   (case side4 => exact HC478_0.out)
   rintro e w10 ⟨rfl,hb⟩
   refine ⟨_,rfl,?_⟩
   have n0_:=zm_ (below_step zB_ hb)
   clear HB
   have HB:=n0_
   clear n0_
   (try clear hb)
   (try clear hb2)
   (try clear hk)
   (try clear hi)
   refine hK.out _ _ ⟨((HB.out.cell (zb_ w _ hw477_0)).trans hw477_0),((HB.out.cell (zb_ w _ hw478_0)).trans hw478_0)⟩ (fun hHeld => ?_)
   clear hK K
   refine zm2_ ?_
   refine zp_ 9 (some 26) ?_
   refine done_ (done_of HT_.out (by kernel_rfl)) ?_
   try go_wp2
   go_roundg k1
   case measure => have:=HK1.out;omega
   case rel => exact ⟨(wrap64 (x5_1 + 1)),zV_,H',⟨by have:=HK1.out;omega⟩,⟨zG_⟩⟩
def laws_eqRule.f (k : Nat) (a0_0 : ByteArray) (l0_1 : List ByteArray) (l0_2 : List (S57)) (a1_0 : ByteArray) (l1_1 : List ByteArray) (l1_2 : List (S57)) : Option (Bool):=if a0_0.toList = a1_0.toList then ((laws_eqStringS.f k l0_1 l1_1).bind fun t482 => (if t482 = true then ((laws_eqAltS.f k l0_2 l1_2).bind fun t483 => (if t483 = true then (some true) else (none))) else (none))) else (none)
theorem laws_eqRule.calls (k : Nat) (a0_0 : ByteArray) (A0_1 : Option Addr) (c0_1 : Nat) (l0_1 : List ByteArray) (A0_2 : Option Addr) (c0_2 : Nat) (l0_2 : List (S57)) (a1_0 : ByteArray) (A1_1 : Option Addr) (c1_1 : Nat) (l1_1 : List ByteArray) (A1_2 : Option Addr) (c1_2 : Nat) (l1_2 : List (S57)) (r : Bool) (w : World) (hr0_1 : Kd.C Kd.string w A0_1 l0_1.length l0_1) (hc0_1 : l0_1.length ≤ c0_1) (hr0_2 : Kd.C k57 w A0_2 l0_2.length l0_2) (hc0_2 : l0_2.length ≤ c0_2) (hr1_1 : Kd.C Kd.string w A1_1 l1_1.length l1_1) (hc1_1 : l1_1.length ≤ c1_1) (hr1_2 : Kd.C k57 w A1_2 l1_2.length l1_2) (hc1_2 : l1_2.length ≤ c1_2) (h : laws_eqRule.f k a0_0 l0_1 l0_2 a1_0 l1_1 l1_2 = some r) :
  Calls Tryz.prog 46 #[.agg #[.string a0_0,.slice A0_1 l0_1.length c0_1,.slice A0_2 l0_2.length c0_2],.agg #[.string a1_0,.slice A1_1 l1_1.length c1_1,.slice A1_2 l1_2.length c1_2]] w fun e w' => e = .returned (.bool r) ∧ Below w.heap.size w w':=by
 have hu49:=Tryz.underlying49
 have HR0_1:=zm_ hr0_1
 have HC0_1:=zm_ hc0_1
 clear hr0_1 hc0_1
 have HR0_2:=zm_ hr0_2
 have HC0_2:=zm_ hc0_2
 clear hr0_2 hc0_2
 have HR1_1:=zm_ hr1_1
 have HC1_1:=zm_ hc1_1
 clear hr1_1 hc1_1
 have HR1_2:=zm_ hr1_2
 have HC1_2:=zm_ hc1_2
 clear hr1_2 hc1_2
 have HB:=zm_ (Below.refl w.heap.size w)
 have H : (if a0_0.toList = a1_0.toList then ((laws_eqStringS.f k l0_1 l1_1).bind fun t482 => (if t482 = true then ((laws_eqAltS.f k l0_2 l1_2).bind fun t483 => (if t483 = true then (some true) else (none))) else (none))) else (none)) = some r:=h
 clear h
 by_cases c3 : a0_0.toList = a1_0.toList
 rotate_left
 ·rw [if_neg c3] at H
  cases H


 rw [if_pos c3] at H
 have c3b0 : (a0_0.toList == a1_0.toList) = true:=beq_iff_eq.mpr c3
 have c3b1 : (a0_0.toList != a1_0.toList) = false:=bne_eq_false_iff_eq.mpr c3
 clear c3
 obtain ⟨t482,A4,H⟩:=zJ_ H
 try dsimp only at H
 by_cases c5 : t482 = true
 rotate_left
 ·replace c5:=Bool.eq_false_iff.mpr c5
  subst c5
  rw [zF_] at H
  cases H
 subst c5
 rw [if_pos rfl] at H
 obtain ⟨t483,A6,H⟩:=zJ_ H
 try dsimp only at H
 by_cases c7 : t483 = true
 rotate_left
 ·replace c7:=Bool.eq_false_iff.mpr c7
  subst c7
  rw [zF_] at H
  cases H
 subst c7
 rw [if_pos rfl] at H
 obtain rfl:=zi_ H
 go_enter Tryz.func46,Tryz.ntmps46
 go_wp2_with (first|((with_reducible refine gate_dst (N:=2) rfl ?_);refine box_event ?hg (N:=2) ?hd (cs:=#[.string a0_0,.slice A0_1 l0_1.length c0_1,.slice A0_2 l0_2.length c0_2]) (t:=49) ?hr ?_;(case hd => rfl);(case hg => rfl);(case hr => first|(go_simp;done)|(go_simp;rfl));intro gb480 hg w8 hbox hb;have n0_:=zm_ (below_step zB_ hb);have n1_:=zm_ (hbox);have n2_:=zm_ ((by rw [hg];exact (below_size zB_) : w.heap.size ≤ gb480));have n3_:=zm_ ((by rw [hg];exact (below_size zB_) : w.heap.size ≤ gb480));clear HB;have HB:=n0_;have BK480:=n1_;have GW480:=n2_;have GE480:=n3_;clear n0_ n1_ n2_ n3_;clear hb hbox hg)|((with_reducible refine gate_dst (N:=3) rfl ?_);refine box_event ?hg (N:=3) ?hd (cs:=#[.string a1_0,.slice A1_1 l1_1.length c1_1,.slice A1_2 l1_2.length c1_2]) (t:=49) ?hr ?_;(case hd => rfl);(case hg => rfl);(case hr => first|(go_simp;done)|(go_simp;rfl));intro gb481 hg w9 hbox hb;have n0_:=zm_ (blk_below (g:=gb480) (o:=.cells #[.string a0_0,.slice A0_1 l0_1.length c0_1,.slice A0_2 l0_2.length c0_2] 49 (0,0)) zK_ hb);have n1_:=zm_ (below_step zG_ hb);have n2_:=zm_ (hbox);have n3_:=zm_ ((by rw [hg];exact (below_size zG_) : w.heap.size ≤ gb481));have n4_:=zm_ ((by rw [hg];exact (below_size zG_) : w.heap.size ≤ gb481));have n5_:=zm_ ((by rw [hg];exact Nat.ne_of_lt (blk_lt (g:=gb480) (o:=.cells #[.string a0_0,.slice A0_1 l0_1.length c0_1,.slice A0_2 l0_2.length c0_2] 49 (0,0)) zK_) : gb480 ≠ gb481));have n6_:=zm_ ((by rw [hg];exact Nat.ne_of_gt (blk_lt (g:=gb480) (o:=.cells #[.string a0_0,.slice A0_1 l0_1.length c0_1,.slice A0_2 l0_2.length c0_2] 49 (0,0)) zK_) : gb481 ≠ gb480));clear BK480;clear HB;have BK480:=n0_;have HB:=n1_;have BK481:=n2_;have GW481:=n3_;have GE481:=n4_;have NB480_481:=n5_;have NB481_480:=n6_;clear n0_ n1_ n2_ n3_ n4_ n5_ n6_;clear hb hbox hg;have hnb10:=NB480_481.out;have hnc10:=NB481_480.out;have hcz11_0 : w9.cell? ⟨gb480,0,none⟩ = some (.string a0_0):=(zc_ BK480.out 0).trans rfl;have hcz11_1 : w9.cell? ⟨gb480,1,none⟩ = some (.slice A0_1 l0_1.length c0_1):=(zc_ BK480.out 1).trans rfl;have hcz11_2 : w9.cell? ⟨gb480,2,none⟩ = some (.slice A0_2 l0_2.length c0_2):=(zc_ BK480.out 2).trans rfl;have hfz11_0:=zf_ BK480.out 0;have hfz11_1:=zf_ BK480.out 1;have hfz11_2:=zf_ BK480.out 2;have hcz12_0 : w9.cell? ⟨gb481,0,none⟩ = some (.string a1_0):=(zc_ BK481.out 0).trans rfl;have hcz12_1 : w9.cell? ⟨gb481,1,none⟩ = some (.slice A1_1 l1_1.length c1_1):=(zc_ BK481.out 1).trans rfl;have hcz12_2 : w9.cell? ⟨gb481,2,none⟩ = some (.slice A1_2 l1_2.length c1_2):=(zc_ BK481.out 2).trans rfl;have hfz12_0:=zf_ BK481.out 0;have hfz12_1:=zf_ BK481.out 1;have hfz12_2:=zf_ BK481.out 2)|((with_reducible refine gate_callee (f:=77) rfl ?_);refine goesL_ (some 14) rfl rfl Tryz.func77 (by kernel_rfl) rfl #[.slice A0_1 l0_1.length c0_1,.slice A1_1 l1_1.length c1_1] rfl zq_ ?_;(with_reducible refine (laws_eqStringS.calls k _ _ l0_1 _ _ l1_1 true _ ?side1 ?side2 ?side3 ?side4 A4.out).mono ?_);(case side1 => exact zP_);(case side2 => exact HC0_1.out);(case side3 => exact zP_);(case side4 => exact HC1_1.out);rintro e w' ⟨rfl,⟨nd,rfl⟩⟩;refine ⟨_,rfl,?_⟩)|((with_reducible refine gate_callee (f:=78) rfl ?_);refine goesL_ (some 20) rfl rfl Tryz.func78 (by kernel_rfl) rfl #[.slice A0_2 l0_2.length c0_2,.slice A1_2 l1_2.length c1_2] rfl zq_ ?_;(with_reducible refine (laws_eqAltS.calls k _ _ l0_2 _ _ l1_2 true _ ?side1 ?side2 ?side3 ?side4 A6.out).mono ?_);(case side1 => repeat (first|exact (Kd.C_below HR0_2.out zG_)|(with_reducible refine Kd.C_alloc ?_ _)|(with_reducible refine Kd.C_drewN ?_ _)|(with_reducible refine Kd.C_drew ?_)));(case side2 => exact HC0_2.out);(case side3 => repeat (first|exact (Kd.C_below HR1_2.out zG_)|(with_reducible refine Kd.C_alloc ?_ _)|(with_reducible refine Kd.C_drewN ?_ _)|(with_reducible refine Kd.C_drew ?_)));(case side4 => exact HC1_2.out);rintro e w13 ⟨rfl,hb⟩;refine ⟨_,rfl,?_⟩;have n0_:=zm_ (blk_below (g:=gb480) (o:=.cells #[.string a0_0,.slice A0_1 l0_1.length c0_1,.slice A0_2 l0_2.length c0_2] 49 (0,0)) zK_ hb);have n1_:=zm_ (blk_below (g:=gb481) (o:=.cells #[.string a1_0,.slice A1_1 l1_1.length c1_1,.slice A1_2 l1_2.length c1_2] 49 (0,0)) zK_ hb);have n2_:=zm_ (below_step zG_ hb);clear BK480;clear BK481;clear HB;have BK480:=n0_;have BK481:=n1_;have HB:=n2_;clear n0_ n1_ n2_;(try clear hb)))
 go_ret
 exact ⟨zE_,zG_⟩
end Go.Proofs.YtkbgmojomgelbaaGreat.MFnExactGrammarOk
