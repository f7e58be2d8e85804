import Derived.Test.YtkbgmojomgelbaaGreatMFnExactGrammarOkx0
namespace Go.Proofs.YtkbgmojomgelbaaGreat.MFnExactGrammarOk
open Go.RowKit Go.Proofs.YtkbgmojomgelbaaGreatW.PrintWords Go.Proofs.YtkbgmojomgelbaaGreatW.PrintLast Go.Proofs.YtkbgmojomgelbaaGreatW.PrintMore
attribute [local go_sem] max2_int min2_int max_two min_two max_three min_three max_four min_four
set_option linter.unusedVariables false
set_option linter.unusedSimpArgs false
set_option maxHeartbeats 8000000
set_option maxRecDepth 100000

def laws_eqIntS.l0 : Nat → List Int → List Int → Int → Option (Bool)
 |0,_,_,_ => none
 |k + 1,x0,x1,x5 => if x5 < (x0.length : Int) then (if 0 ≤ x5 then (if x5 < (x1.length : Int) then (if (rd x0 x5) = (rd x1 x5) then (laws_eqIntS.l0 k x0 x1 (wrap64 (x5 + 1))) else (none)) else (none)) else (none)) else (some true)
def laws_eqIntS.f (k : Nat) (l0 : List Int) (l1 : List Int) : Option (Bool):=if (l0.length : Int) = (l1.length : Int) then (laws_eqIntS.l0 k l0 l1 0) else (none)
theorem laws_eqIntS.calls (k : Nat) (A0 : Option Addr) (c0 : Nat) (l0 : List Int) (A1 : Option Addr) (c1 : Nat) (l1 : List Int) (r : Bool) (w : World) (hr0 : Kd.C (Kd.int .i64) w A0 l0.length l0) (hc0 : l0.length ≤ c0) (hr1 : Kd.C (Kd.int .i64) w A1 l1.length l1) (hc1 : l1.length ≤ c1) (h : laws_eqIntS.f k l0 l1 = some r) :
  Calls Tryz.prog 90 #[.slice A0 l0.length c0,.slice A1 l1.length c1] w fun e w' => e = .returned (.bool r) ∧ Drawn0 w w':=by
 have HR0:=zm_ hr0
 have HC0:=zm_ hc0
 clear hr0 hc0
 have HR1:=zm_ hr1
 have HC1:=zm_ hc1
 clear hr1 hc1
 have H : (if (l0.length : Int) = (l1.length : Int) then (laws_eqIntS.l0 k l0 l1 0) else (none)) = some r:=h
 clear h
 by_cases c3 : (l0.length : Int) = (l1.length : Int)
 rotate_left
 ·rw [if_neg c3] at H
  cases H


 rw [if_pos c3] at H
 have c3b0 : ((l0.length : Int) == (l1.length : Int)) = true:=beq_iff_eq.mpr c3
 have c3b1 : ((l0.length : Int) != (l1.length : Int)) = false:=bne_eq_false_iff_eq.mpr c3
 have c3b2 : (l0.length == l1.length) = true:=by first|simpa using c3|(simp at c3 ⊢;omega)
 clear c3
 have H':=zm_ H
 clear H
 go_enter Tryz.func90,Tryz.ntmps90
 go_wp2
 repeat (go_quiet (fail);try go_wp2)
 go_loopg [5] k (fun kq v5 w' => ∃ (x5_1 : Int),v5 = .int .i64 x5_1 ∧ Aside0 (laws_eqIntS.l0 kq l0 l1 x5_1 = some r) ∧ Aside0 (kq ≤ k) ∧ Drawn0 w w')
 case atStart => exact ⟨(0),zV_,H',⟨Nat.le_refl _⟩,by repeat (first|exact Drawn0.refl _|apply Drawn0.step)⟩
 case round =>
  clear H'
  obtain ⟨x5_1,rfl,HA,HK1,⟨m1,rfl⟩⟩:=hrel
  cases gk with
  |zero => exact absurd HA.out (by simp [laws_eqIntS.l0])
  |succ k1 =>
   have H:=HA.out
   clear HA
   simp only [laws_eqIntS.l0] at H
   by_cases c4 : x5_1 < (l0.length : Int)
   rotate_left
   ·rw [if_neg c4] at H
    have c4b0:=decide_eq_false c4
    clear c4
    obtain rfl:=zi_ H
    go_wp2
    repeat (go_quiet (fail);try go_wp2)
    go_ret
    exact zX_
   rw [if_pos c4] at H
   have c4b0:=decide_eq_true c4
   clear c4
   by_cases c5 : 0 ≤ x5_1
   rotate_left
   ·rw [if_neg c5] at H
    cases H
   rw [if_pos c5] at H
   have c5b0:=decide_eq_true c5
   clear c5
   by_cases c6 : x5_1 < (l1.length : Int)
   rotate_left
   ·rw [if_neg c6] at H
    cases H
   rw [if_pos c6] at H
   have c6b0:=decide_eq_true c6
   clear c6
   by_cases c7 : (rd l0 x5_1) = (rd l1 x5_1)
   rotate_left
   ·rw [if_neg c7] at H
    cases H
   rw [if_pos c7] at H
   have c7b0 : ((rd l0 x5_1) == (rd l1 x5_1)) = true:=beq_iff_eq.mpr c7
   have c7b1 : ((rd l0 x5_1) != (rd l1 x5_1)) = false:=bne_eq_false_iff_eq.mpr c7
   clear c7
   have H':=zm_ H
   clear H
   have p454 : 0 ≤ (x5_1 : Int):=zo_
   have q454 : x5_1 < (l0.length : Int):=zo_
   obtain ⟨ad454,e454,hx454_0⟩:=Kd.at_int HR0.out x5_1 p454 q454
   cases e454
   replace p454:=eq_true p454
   replace q454:=eq_true q454
   have p455 : 0 ≤ (x5_1 : Int):=zo_
   have q455 : x5_1 < (l1.length : Int):=zo_
   obtain ⟨ad455,e455,hx455_0⟩:=Kd.at_int HR1.out x5_1 p455 q455
   cases e455
   replace p455:=eq_true p455
   replace q455:=eq_true q455
   go_wp2
   repeat (go_quiet (fail);try go_wp2)
   go_roundg k1
   case measure => have:=HK1.out;omega
   case rel => exact ⟨(wrap64 (x5_1 + 1)),zV_,H',⟨by have:=HK1.out;omega⟩,by repeat (first|exact Drawn0.refl _|apply Drawn0.step)⟩
def laws_eqExNode.f (k : Nat) (a0_0 : Int) (a0_1 : Int) (a0_2 : ByteArray) (l0_3 : List Int) (a1_0 : Int) (a1_1 : Int) (a1_2 : ByteArray) (l1_3 : List Int) : Option (Bool):=if a0_0 = a1_0 then (if a0_1 = a1_1 then (if a0_2.toList = a1_2.toList then ((laws_eqIntS.f k l0_3 l1_3).bind fun t458 => (if t458 = true then (some true) else (none))) else (none)) else (none)) else (none)
theorem laws_eqExNode.calls (k : Nat) (a0_0 : Int) (a0_1 : Int) (a0_2 : ByteArray) (A0_3 : Option Addr) (c0_3 : Nat) (l0_3 : List Int) (a1_0 : Int) (a1_1 : Int) (a1_2 : ByteArray) (A1_3 : Option Addr) (c1_3 : Nat) (l1_3 : List Int) (r : Bool) (w : World) (hr0_3 : Kd.C (Kd.int .i64) w A0_3 l0_3.length l0_3) (hc0_3 : l0_3.length ≤ c0_3) (hr1_3 : Kd.C (Kd.int .i64) w A1_3 l1_3.length l1_3) (hc1_3 : l1_3.length ≤ c1_3) (h : laws_eqExNode.f k a0_0 a0_1 a0_2 l0_3 a1_0 a1_1 a1_2 l1_3 = some r) :
  Calls Tryz.prog 184 #[.agg #[.int .i64 a0_0,.int .i64 a0_1,.string a0_2,.slice A0_3 l0_3.length c0_3],.agg #[.int .i64 a1_0,.int .i64 a1_1,.string a1_2,.slice A1_3 l1_3.length c1_3]] w fun e w' => e = .returned (.bool r) ∧ Below w.heap.size w w':=by
 have hu147:=Tryz.underlying147
 have HR0_3:=zm_ hr0_3
 have HC0_3:=zm_ hc0_3
 clear hr0_3 hc0_3
 have HR1_3:=zm_ hr1_3
 have HC1_3:=zm_ hc1_3
 clear hr1_3 hc1_3
 have HB:=zm_ (Below.refl w.heap.size w)
 have H : (if a0_0 = a1_0 then (if a0_1 = a1_1 then (if a0_2.toList = a1_2.toList then ((laws_eqIntS.f k l0_3 l1_3).bind fun t458 => (if t458 = true then (some true) else (none))) else (none)) else (none)) else (none)) = some r:=h
 clear h
 by_cases c3 : a0_0 = a1_0
 rotate_left
 ·rw [if_neg c3] at H
  cases H


 rw [if_pos c3] at H
 have c3b0 : (a0_0 == a1_0) = true:=beq_iff_eq.mpr c3
 have c3b1 : (a0_0 != a1_0) = false:=bne_eq_false_iff_eq.mpr c3
 clear c3
 by_cases c4 : a0_1 = a1_1
 rotate_left
 ·rw [if_neg c4] at H
  cases H
 rw [if_pos c4] at H
 have c4b0 : (a0_1 == a1_1) = true:=beq_iff_eq.mpr c4
 have c4b1 : (a0_1 != a1_1) = false:=bne_eq_false_iff_eq.mpr c4
 clear c4
 by_cases c5 : a0_2.toList = a1_2.toList
 rotate_left
 ·rw [if_neg c5] at H
  cases H
 rw [if_pos c5] at H
 have c5b0 : (a0_2.toList == a1_2.toList) = true:=beq_iff_eq.mpr c5
 have c5b1 : (a0_2.toList != a1_2.toList) = false:=bne_eq_false_iff_eq.mpr c5
 clear c5
 obtain ⟨t458,A6,H⟩:=zJ_ H
 try dsimp only at H
 by_cases c7 : t458 = true
 rotate_left
 ·replace c7:=Bool.eq_false_iff.mpr c7
  subst c7
  rw [zF_] at H
  cases H
 subst c7
 rw [if_pos rfl] at H
 obtain rfl:=zi_ H
 go_enter Tryz.func184,Tryz.ntmps184
 go_wp2_with (first|((with_reducible refine gate_dst (N:=2) rfl ?_);refine box_event ?hg (N:=2) ?hd (cs:=#[.int .i64 a0_0,.int .i64 a0_1,.string a0_2,.slice A0_3 l0_3.length c0_3]) (t:=147) ?hr ?_;(case hd => rfl);(case hg => rfl);(case hr => first|(go_simp;done)|(go_simp;rfl));intro gb456 hg w8 hbox hb;have n0_:=zm_ (below_step zB_ hb);have n1_:=zm_ (hbox);have n2_:=zm_ ((by rw [hg];exact (below_size zB_) : w.heap.size ≤ gb456));have n3_:=zm_ ((by rw [hg];exact (below_size zB_) : w.heap.size ≤ gb456));clear HB;have HB:=n0_;have BK456:=n1_;have GW456:=n2_;have GE456:=n3_;clear n0_ n1_ n2_ n3_;clear hb hbox hg)|((with_reducible refine gate_dst (N:=3) rfl ?_);refine box_event ?hg (N:=3) ?hd (cs:=#[.int .i64 a1_0,.int .i64 a1_1,.string a1_2,.slice A1_3 l1_3.length c1_3]) (t:=147) ?hr ?_;(case hd => rfl);(case hg => rfl);(case hr => first|(go_simp;done)|(go_simp;rfl));intro gb457 hg w9 hbox hb;have n0_:=zm_ (blk_below (g:=gb456) (o:=.cells #[.int .i64 a0_0,.int .i64 a0_1,.string a0_2,.slice A0_3 l0_3.length c0_3] 147 (0,0)) zK_ hb);have n1_:=zm_ (below_step zG_ hb);have n2_:=zm_ (hbox);have n3_:=zm_ ((by rw [hg];exact (below_size zG_) : w.heap.size ≤ gb457));have n4_:=zm_ ((by rw [hg];exact (below_size zG_) : w.heap.size ≤ gb457));have n5_:=zm_ ((by rw [hg];exact Nat.ne_of_lt (blk_lt (g:=gb456) (o:=.cells #[.int .i64 a0_0,.int .i64 a0_1,.string a0_2,.slice A0_3 l0_3.length c0_3] 147 (0,0)) zK_) : gb456 ≠ gb457));have n6_:=zm_ ((by rw [hg];exact Nat.ne_of_gt (blk_lt (g:=gb456) (o:=.cells #[.int .i64 a0_0,.int .i64 a0_1,.string a0_2,.slice A0_3 l0_3.length c0_3] 147 (0,0)) zK_) : gb457 ≠ gb456));clear BK456;clear HB;have BK456:=n0_;have HB:=n1_;have BK457:=n2_;have GW457:=n3_;have GE457:=n4_;have NB456_457:=n5_;have NB457_456:=n6_;clear n0_ n1_ n2_ n3_ n4_ n5_ n6_;clear hb hbox hg;have hnb10:=NB456_457.out;have hnc10:=NB457_456.out;have hcz11_0 : w9.cell? ⟨gb456,0,none⟩ = some (.int .i64 a0_0):=(zc_ BK456.out 0).trans rfl;have hcz11_1 : w9.cell? ⟨gb456,1,none⟩ = some (.int .i64 a0_1):=(zc_ BK456.out 1).trans rfl;have hcz11_2 : w9.cell? ⟨gb456,2,none⟩ = some (.string a0_2):=(zc_ BK456.out 2).trans rfl;have hcz11_3 : w9.cell? ⟨gb456,3,none⟩ = some (.slice A0_3 l0_3.length c0_3):=(zc_ BK456.out 3).trans rfl;have hfz11_0:=zf_ BK456.out 0;have hfz11_1:=zf_ BK456.out 1;have hfz11_2:=zf_ BK456.out 2;have hfz11_3:=zf_ BK456.out 3;have hcz12_0 : w9.cell? ⟨gb457,0,none⟩ = some (.int .i64 a1_0):=(zc_ BK457.out 0).trans rfl;have hcz12_1 : w9.cell? ⟨gb457,1,none⟩ = some (.int .i64 a1_1):=(zc_ BK457.out 1).trans rfl;have hcz12_2 : w9.cell? ⟨gb457,2,none⟩ = some (.string a1_2):=(zc_ BK457.out 2).trans rfl;have hcz12_3 : w9.cell? ⟨gb457,3,none⟩ = some (.slice A1_3 l1_3.length c1_3):=(zc_ BK457.out 3).trans rfl;have hfz12_0:=zf_ BK457.out 0;have hfz12_1:=zf_ BK457.out 1;have hfz12_2:=zf_ BK457.out 2;have hfz12_3:=zf_ BK457.out 3)|((with_reducible refine gate_callee (f:=90) rfl ?_);refine goesL_ (some 24) rfl rfl Tryz.func90 (by kernel_rfl) rfl #[.slice A0_3 l0_3.length c0_3,.slice A1_3 l1_3.length c1_3] rfl zq_ ?_;(with_reducible refine (laws_eqIntS.calls k _ _ l0_3 _ _ l1_3 true _ ?side1 ?side2 ?side3 ?side4 A6.out).mono ?_);(case side1 => exact zP_);(case side2 => exact HC0_3.out);(case side3 => exact zP_);(case side4 => exact HC1_3.out);rintro e w' ⟨rfl,⟨nd,rfl⟩⟩;refine ⟨_,rfl,?_⟩))
 go_ret
 exact ⟨zE_,zG_⟩
def laws_eqExNodeS.l0 : Nat → List (S147) → List (S147) → Int → Option (Bool)
 |0,_,_,_ => none
 |k + 1,x0,x1,x5 => if x5 < (x0.length : Int) then (if 0 ≤ x5 then (if x5 < (x1.length : Int) then ((laws_eqExNode.f k ((rd_T147 x0 x5).f0) ((rd_T147 x0 x5).f1) ((rd_T147 x0 x5).f2) ((rd_T147 x0 x5).f3) ((rd_T147 x1 x5).f0) ((rd_T147 x1 x5).f1) ((rd_T147 x1 x5).f2) ((rd_T147 x1 x5).f3)).bind fun t461 => (if t461 = true then (laws_eqExNodeS.l0 k x0 x1 (wrap64 (x5 + 1))) else (none))) else (none)) else (none)) else (some true)
def laws_eqExNodeS.f (k : Nat) (l0 : List (S147)) (l1 : List (S147)) : Option (Bool):=if (l0.length : Int) = (l1.length : Int) then (laws_eqExNodeS.l0 k l0 l1 0) else (none)
def laws_eqExNodeS.T6 : Bool × List (List Nat × List Nat):=(true,[([],[]),([],[]),([0,1],[0,1]),([2],[2]),([],[]),([],[]),([4,5],[4,5]),([6],[6]),([3,7],[3,7]),([8],[8])])
def laws_eqExNodeS.B6 : List Nat:=[0,0,3,7,0,0,48,112,255,511]
theorem laws_eqExNodeS.tab6 : rtab .any (opsOf Tryz.f181 6) = laws_eqExNodeS.T6:=by kernel_rfl
theorem laws_eqExNodeS.bits6 : waitsOk laws_eqExNodeS.T6.2 laws_eqExNodeS.B6 = true:=by kernel_rfl
theorem laws_eqExNodeS.calls (k : Nat) (A0 : Option Addr) (c0 : Nat) (l0 : List (S147)) (A1 : Option Addr) (c1 : Nat) (l1 : List (S147)) (r : Bool) (w : World) (hr0 : Kd.C k147 w A0 l0.length l0) (hc0 : l0.length ≤ c0) (hr1 : Kd.C k147 w A1 l1.length l1) (hc1 : l1.length ≤ c1) (h : laws_eqExNodeS.f k l0 l1 = some r) :
  Calls Tryz.prog 181 #[.slice A0 l0.length c0,.slice A1 l1.length c1] w fun e w' => e = .returned (.bool r) ∧ Below w.heap.size w w':=by
 have hu147:=Tryz.underlying147
 have HR0:=zm_ hr0
 have HC0:=zm_ hc0
 clear hr0 hc0
 have HR1:=zm_ hr1
 have HC1:=zm_ hc1
 clear hr1 hc1
 have HB:=zm_ (Below.refl w.heap.size w)
 have H : (if (l0.length : Int) = (l1.length : Int) then (laws_eqExNodeS.l0 k l0 l1 0) else (none)) = some r:=h
 clear h
 by_cases c3 : (l0.length : Int) = (l1.length : Int)
 rotate_left
 ·rw [if_neg c3] at H
  cases H


 rw [if_pos c3] at H
 have c3b0 : ((l0.length : Int) == (l1.length : Int)) = true:=beq_iff_eq.mpr c3
 have c3b1 : ((l0.length : Int) != (l1.length : Int)) = false:=bne_eq_false_iff_eq.mpr c3
 have c3b2 : (l0.length == l1.length) = true:=by first|simpa using c3|(simp at c3 ⊢;omega)
 clear c3
 have H':=zm_ H
 clear H
 go_enter Tryz.func181,Tryz.ntmps181
 go_wp2
 go_loopg [5] k (fun kq v5 w' => ∃ (x5_1 : Int),v5 = .int .i64 x5_1 ∧ Aside0 (laws_eqExNodeS.l0 kq l0 l1 x5_1 = some r) ∧ Aside0 (kq ≤ k) ∧ Aside0 (Below w.heap.size w w'))
 case atStart => exact ⟨(0),zV_,H',⟨Nat.le_refl _⟩,⟨zG_⟩⟩
 case round =>
  clear H'
  obtain ⟨x5_1,rfl,HA,HK1,HB⟩:=hrel
  cases gk with
  |zero => exact absurd HA.out (by simp [laws_eqExNodeS.l0])
  |succ k1 =>
   have H:=HA.out
   clear HA
   simp only [laws_eqExNodeS.l0] at H
   by_cases c4 : x5_1 < (l0.length : Int)
   rotate_left
   ·rw [if_neg c4] at H
    have c4b0:=decide_eq_false c4
    clear c4
    obtain rfl:=zi_ H
    go_wp2
    go_ret
    exact ⟨zE_,zG_⟩
   rw [if_pos c4] at H
   have c4b0:=decide_eq_true c4
   clear c4
   by_cases c5 : 0 ≤ x5_1
   rotate_left
   ·rw [if_neg c5] at H
    cases H
   rw [if_pos c5] at H
   have c5b0:=decide_eq_true c5
   clear c5
   by_cases c6 : x5_1 < (l1.length : Int)
   rotate_left
   ·rw [if_neg c6] at H
    cases H
   rw [if_pos c6] at H
   have c6b0:=decide_eq_true c6
   clear c6
   obtain ⟨t461,A7,H⟩:=zJ_ H
   try dsimp only at H
   by_cases c8 : t461 = true
   rotate_left
   ·replace c8:=Bool.eq_false_iff.mpr c8
    subst c8
    rw [zF_] at H
    cases H
   subst c8
   rw [if_pos rfl] at H
   have H':=zm_ H
   clear H
   try go_wp2
   have n0_:=zm_ (zd_ HB.out)
   clear HB
   have HB:=n0_
   clear n0_
   have p459 : 0 ≤ (x5_1 : Int):=zo_
   have q459 : x5_1 < (l0.length : Int):=zo_
   obtain ⟨ad459,A459_3,c459_3,e459,hx459_0,hx459_1,hx459_2,hx459_3,hl459_3,hi459_3⟩:=at_T147 HR0.out x5_1 p459 q459
   have hw459_3:=hx459_3
   have hw459_2:=hx459_2
   have hw459_1:=hx459_1
   have hw459_0:=hx459_0
   cases e459
   replace hx459_0:=(HB.out.cell (zb_ w _ hx459_0)).trans hx459_0
   replace hx459_1:=(HB.out.cell (zb_ w _ hx459_1)).trans hx459_1
   replace hx459_2:=(HB.out.cell (zb_ w _ hx459_2)).trans hx459_2
   replace hx459_3:=(HB.out.cell (zb_ w _ hx459_3)).trans hx459_3
   have HR459_3:=zm_ hi459_3
   have HC459_3:=zm_ hl459_3
   clear hi459_3 hl459_3
   replace p459:=eq_true p459
   replace q459:=eq_true q459
   have p460 : 0 ≤ (x5_1 : Int):=zo_
   have q460 : x5_1 < (l1.length : Int):=zo_
   obtain ⟨ad460,A460_3,c460_3,e460,hx460_0,hx460_1,hx460_2,hx460_3,hl460_3,hi460_3⟩:=at_T147 HR1.out x5_1 p460 q460
   have hw460_3:=hx460_3
   have hw460_2:=hx460_2
   have hw460_1:=hx460_1
   have hw460_0:=hx460_0
   cases e460
   replace hx460_0:=(HB.out.cell (zb_ w _ hx460_0)).trans hx460_0
   replace hx460_1:=(HB.out.cell (zb_ w _ hx460_1)).trans hx460_1
   replace hx460_2:=(HB.out.cell (zb_ w _ hx460_2)).trans hx460_2
   replace hx460_3:=(HB.out.cell (zb_ w _ hx460_3)).trans hx460_3
   have HR460_3:=zm_ hi460_3
   have HC460_3:=zm_ hl460_3
   clear hi460_3 hl460_3
   replace p460:=eq_true p460
   replace q460:=eq_true q460
   refine start_ (n:=10) (S:=fun w' => w'.cell? (ad459.add ((x5_1).toNat * 4)) = some (.int .i64 ((rd_T147 l0 x5_1).f0)) ∧ w'.cell? ⟨(ad459.add ((x5_1).toNat * 4)).block,(ad459.add ((x5_1).toNat * 4)).off + 1,none⟩ = some (.int .i64 ((rd_T147 l0 x5_1).f1)) ∧ w'.cell? ⟨(ad459.add ((x5_1).toNat * 4)).block,(ad459.add ((x5_1).toNat * 4)).off + 2,none⟩ = some (.string ((rd_T147 l0 x5_1).f2)) ∧ w'.cell? ⟨(ad459.add ((x5_1).toNat * 4)).block,(ad459.add ((x5_1).toNat * 4)).off + 3,none⟩ = some (.slice A459_3 ((rd_T147 l0 x5_1).f3).length c459_3) ∧ w'.cell? (ad460.add ((x5_1).toNat * 4)) = some (.int .i64 ((rd_T147 l1 x5_1).f0)) ∧ w'.cell? ⟨(ad460.add ((x5_1).toNat * 4)).block,(ad460.add ((x5_1).toNat * 4)).off + 1,none⟩ = some (.int .i64 ((rd_T147 l1 x5_1).f1)) ∧ w'.cell? ⟨(ad460.add ((x5_1).toNat * 4)).block,(ad460.add ((x5_1).toNat * 4)).off + 2,none⟩ = some (.string ((rd_T147 l1 x5_1).f2)) ∧ w'.cell? ⟨(ad460.add ((x5_1).toNat * 4)).block,(ad460.add ((x5_1).toNat * 4)).off + 3,none⟩ = some (.slice A460_3 ((rd_T147 l1 x5_1).f3).length c460_3)) (ds:=[]) #[false,false,false,false,false,false,false,false,false,false] (by kernel_rfl) rfl rfl ⟨((HB.out.cell (zb_ w _ hw459_0)).trans hw459_0),((HB.out.cell (zb_ w _ hw459_1)).trans hw459_1),((HB.out.cell (zb_ w _ hw459_2)).trans hw459_2),((HB.out.cell (zb_ w _ hw459_3)).trans hw459_3),((HB.out.cell (zb_ w _ hw460_0)).trans hw460_0),((HB.out.cell (zb_ w _ hw460_1)).trans hw460_1),((HB.out.cell (zb_ w _ hw460_2)).trans hw460_2),((HB.out.cell (zb_ w _ hw460_3)).trans hw460_3)⟩ (fun hHeld => ?_);refine with_tabW laws_eqExNodeS.tab6 laws_eqExNodeS.bits6 (fun HT_ HW_ => ?_)
   generalize wr.drew = w9 at HB HR459_3 HR460_3 hx459_0 hx459_1 hx459_2 hx459_3 hx460_0 hx460_1 hx460_2 hx460_3 hHeld ⊢
   refine zp_ 0 (some 17) ?_
   refine zp_ 1 (some 18) ?_
   refine zp_ 2 (some 19) ?_
   refine zp_ 4 (some 21) ?_
   refine zp_ 5 (some 22) ?_
   refine zp_ 6 (some 23) ?_
   refine zk2_ 3 (some 20) ?_
   refine zk2_ 7 (some 24) ?_
   refine one_ (i:=8) (N:=some 25) #[true,true,true,true,true,true,true,true,true,false] rfl rfl (one_of HT_.out (by kernel_rfl)) (by decide) (fun K hK => ?_)
   refine goes_ Tryz.func184 (by kernel_rfl) rfl #[.agg #[.int .i64 ((rd_T147 l0 x5_1).f0),.int .i64 ((rd_T147 l0 x5_1).f1),.string ((rd_T147 l0 x5_1).f2),.slice A459_3 ((rd_T147 l0 x5_1).f3).length c459_3],.agg #[.int .i64 ((rd_T147 l1 x5_1).f0),.int .i64 ((rd_T147 l1 x5_1).f1),.string ((rd_T147 l1 x5_1).f2),.slice A460_3 ((rd_T147 l1 x5_1).f3).length c460_3]] (by rfl) rfl rfl zq_ ?_
   with_reducible refine (laws_eqExNode.calls k1 ((rd_T147 l0 x5_1).f0) ((rd_T147 l0 x5_1).f1) ((rd_T147 l0 x5_1).f2) _ _ ((rd_T147 l0 x5_1).f3) ((rd_T147 l1 x5_1).f0) ((rd_T147 l1 x5_1).f1) ((rd_T147 l1 x5_1).f2) _ _ ((rd_T147 l1 x5_1).f3) true _ ?side1 ?side2 ?side3 ?side4 A7.out).mono ?_
   (case side1 => exact zP_)
   (case side2 => exact HC459_3.out)
   (case side3 => exact zP_)
   (case side4 => exact HC460_3.out)
   rintro e w10 ⟨rfl,hb⟩
   refine ⟨_,rfl,?_⟩
   have n0_:=zm_ (below_step zB_ hb)
   clear HB
   have HB:=n0_
   clear n0_
   (try clear hb)
   (try clear hb2)
   (try clear hk)
   (try clear hi)
   refine hK.out _ _ ⟨((HB.out.cell (zb_ w _ hw459_0)).trans hw459_0),((HB.out.cell (zb_ w _ hw459_1)).trans hw459_1),((HB.out.cell (zb_ w _ hw459_2)).trans hw459_2),((HB.out.cell (zb_ w _ hw459_3)).trans hw459_3),((HB.out.cell (zb_ w _ hw460_0)).trans hw460_0),((HB.out.cell (zb_ w _ hw460_1)).trans hw460_1),((HB.out.cell (zb_ w _ hw460_2)).trans hw460_2),((HB.out.cell (zb_ w _ hw460_3)).trans hw460_3)⟩ (fun hHeld => ?_)
   clear hK K
   refine zm2_ ?_
   refine zp_ 9 (some 26) ?_
   refine done_ (done_of HT_.out (by kernel_rfl)) ?_
   try go_wp2
   go_roundg k1
   case measure => have:=HK1.out;omega
   case rel => exact ⟨(wrap64 (x5_1 + 1)),zV_,H',⟨by have:=HK1.out;omega⟩,⟨zG_⟩⟩
def laws_eqExpr.f (k : Nat) (l0_0 : List (S147)) (l1_0 : List (S147)) : Option (Bool):=(laws_eqExNodeS.f k l0_0 l1_0).bind fun t464 => (if t464 = true then (some true) else (none))
theorem laws_eqExpr.calls (k : Nat) (A0_0 : Option Addr) (c0_0 : Nat) (l0_0 : List (S147)) (A1_0 : Option Addr) (c1_0 : Nat) (l1_0 : List (S147)) (r : Bool) (w : World) (hr0_0 : Kd.C k147 w A0_0 l0_0.length l0_0) (hc0_0 : l0_0.length ≤ c0_0) (hr1_0 : Kd.C k147 w A1_0 l1_0.length l1_0) (hc1_0 : l1_0.length ≤ c1_0) (h : laws_eqExpr.f k l0_0 l1_0 = some r) :
  Calls Tryz.prog 176 #[.agg #[.slice A0_0 l0_0.length c0_0],.agg #[.slice A1_0 l1_0.length c1_0]] w fun e w' => e = .returned (.bool r) ∧ Below w.heap.size w w':=by
 have hu123:=Tryz.underlying123
 have HR0_0:=zm_ hr0_0
 have HC0_0:=zm_ hc0_0
 clear hr0_0 hc0_0
 have HR1_0:=zm_ hr1_0
 have HC1_0:=zm_ hc1_0
 clear hr1_0 hc1_0
 have HB:=zm_ (Below.refl w.heap.size w)
 have H : ((laws_eqExNodeS.f k l0_0 l1_0).bind fun t464 => (if t464 = true then (some true) else (none))) = some r:=h
 clear h
 obtain ⟨t464,A3,H⟩:=zJ_ H
 try dsimp only at H
 by_cases c4 : t464 = true
 rotate_left
 ·replace c4:=Bool.eq_false_iff.mpr c4
  subst c4
  rw [zF_] at H
  cases H


 subst c4
 rw [if_pos rfl] at H
 obtain rfl:=zi_ H
 go_enter Tryz.func176,Tryz.ntmps176
 go_wp2_with (first|((with_reducible refine gate_dst (N:=2) rfl ?_);refine box_event ?hg (N:=2) ?hd (cs:=#[.slice A0_0 l0_0.length c0_0]) (t:=123) ?hr ?_;(case hd => rfl);(case hg => rfl);(case hr => first|(go_simp;done)|(go_simp;rfl));intro gb462 hg w5 hbox hb;have n0_:=zm_ (below_step zB_ hb);have n1_:=zm_ (hbox);have n2_:=zm_ ((by rw [hg];exact (below_size zB_) : w.heap.size ≤ gb462));have n3_:=zm_ ((by rw [hg];exact (below_size zB_) : w.heap.size ≤ gb462));clear HB;have HB:=n0_;have BK462:=n1_;have GW462:=n2_;have GE462:=n3_;clear n0_ n1_ n2_ n3_;clear hb hbox hg)|((with_reducible refine gate_dst (N:=3) rfl ?_);refine box_event ?hg (N:=3) ?hd (cs:=#[.slice A1_0 l1_0.length c1_0]) (t:=123) ?hr ?_;(case hd => rfl);(case hg => rfl);(case hr => first|(go_simp;done)|(go_simp;rfl));intro gb463 hg w6 hbox hb;have n0_:=zm_ (blk_below (g:=gb462) (o:=.cells #[.slice A0_0 l0_0.length c0_0] 123 (0,0)) zK_ hb);have n1_:=zm_ (below_step zG_ hb);have n2_:=zm_ (hbox);have n3_:=zm_ ((by rw [hg];exact (below_size zG_) : w.heap.size ≤ gb463));have n4_:=zm_ ((by rw [hg];exact (below_size zG_) : w.heap.size ≤ gb463));have n5_:=zm_ ((by rw [hg];exact Nat.ne_of_lt (blk_lt (g:=gb462) (o:=.cells #[.slice A0_0 l0_0.length c0_0] 123 (0,0)) zK_) : gb462 ≠ gb463));have n6_:=zm_ ((by rw [hg];exact Nat.ne_of_gt (blk_lt (g:=gb462) (o:=.cells #[.slice A0_0 l0_0.length c0_0] 123 (0,0)) zK_) : gb463 ≠ gb462));clear BK462;clear HB;have BK462:=n0_;have HB:=n1_;have BK463:=n2_;have GW463:=n3_;have GE463:=n4_;have NB462_463:=n5_;have NB463_462:=n6_;clear n0_ n1_ n2_ n3_ n4_ n5_ n6_;clear hb hbox hg;have hnb7:=NB462_463.out;have hnc7:=NB463_462.out;have hcz8_0 : w6.cell? ⟨gb462,0,none⟩ = some (.slice A0_0 l0_0.length c0_0):=(zc_ BK462.out 0).trans rfl;have hfz8_0:=zf_ BK462.out 0;have hcz9_0 : w6.cell? ⟨gb463,0,none⟩ = some (.slice A1_0 l1_0.length c1_0):=(zc_ BK463.out 0).trans rfl;have hfz9_0:=zf_ BK463.out 0)|((with_reducible refine gate_callee (f:=181) rfl ?_);refine goesL_ (some 9) rfl rfl Tryz.func181 (by kernel_rfl) rfl #[.slice A0_0 l0_0.length c0_0,.slice A1_0 l1_0.length c1_0] rfl zq_ ?_;(with_reducible refine (laws_eqExNodeS.calls k _ _ l0_0 _ _ l1_0 true _ ?side1 ?side2 ?side3 ?side4 A3.out).mono ?_);(case side1 => exact zP_);(case side2 => exact HC0_0.out);(case side3 => exact zP_);(case side4 => exact HC1_0.out);rintro e w10 ⟨rfl,hb⟩;refine ⟨_,rfl,?_⟩;have n0_:=zm_ (blk_below (g:=gb462) (o:=.cells #[.slice A0_0 l0_0.length c0_0] 123 (0,0)) zK_ hb);have n1_:=zm_ (blk_below (g:=gb463) (o:=.cells #[.slice A1_0 l1_0.length c1_0] 123 (0,0)) zK_ hb);have n2_:=zm_ (below_step zG_ hb);clear BK462;clear BK463;clear HB;have BK462:=n0_;have BK463:=n1_;have HB:=n2_;clear n0_ n1_ n2_;(try clear hb)))
 go_ret
 exact ⟨zE_,zG_⟩
def laws_eqExprS.l0 : Nat → List (S123) → List (S123) → Int → Option (Bool)
 |0,_,_,_ => none
 |k + 1,x0,x1,x5 => if x5 < (x0.length : Int) then (if 0 ≤ x5 then (if x5 < (x1.length : Int) then ((laws_eqExpr.f k ((rd_T123 x0 x5).f0) ((rd_T123 x1 x5).f0)).bind fun t467 => (if t467 = true then (laws_eqExprS.l0 k x0 x1 (wrap64 (x5 + 1))) else (none))) else (none)) else (none)) else (some true)
def laws_eqExprS.f (k : Nat) (l0 : List (S123)) (l1 : List (S123)) : Option (Bool):=if (l0.length : Int) = (l1.length : Int) then (laws_eqExprS.l0 k l0 l1 0) else (none)
def laws_eqExprS.T6 : Bool × List (List Nat × List Nat):=(true,[([],[]),([],[]),([0,1],[0,1]),([2],[2]),([],[]),([],[]),([4,5],[4,5]),([6],[6]),([3,7],[3,7]),([8],[8])])
def laws_eqExprS.B6 : List Nat:=[0,0,3,7,0,0,48,112,255,511]
theorem laws_eqExprS.tab6 : rtab .any (opsOf Tryz.f163 6) = laws_eqExprS.T6:=by kernel_rfl
theorem laws_eqExprS.bits6 : waitsOk laws_eqExprS.T6.2 laws_eqExprS.B6 = true:=by kernel_rfl
theorem laws_eqExprS.calls (k : Nat) (A0 : Option Addr) (c0 : Nat) (l0 : List (S123)) (A1 : Option Addr) (c1 : Nat) (l1 : List (S123)) (r : Bool) (w : World) (hr0 : Kd.C k123 w A0 l0.length l0) (hc0 : l0.length ≤ c0) (hr1 : Kd.C k123 w A1 l1.length l1) (hc1 : l1.length ≤ c1) (h : laws_eqExprS.f k l0 l1 = some r) :
  Calls Tryz.prog 163 #[.slice A0 l0.length c0,.slice A1 l1.length c1] w fun e w' => e = .returned (.bool r) ∧ Below w.heap.size w w':=by
 have hu123:=Tryz.underlying123
 have HR0:=zm_ hr0
 have HC0:=zm_ hc0
 clear hr0 hc0
 have HR1:=zm_ hr1
 have HC1:=zm_ hc1
 clear hr1 hc1
 have HB:=zm_ (Below.refl w.heap.size w)
 have H : (if (l0.length : Int) = (l1.length : Int) then (laws_eqExprS.l0 k l0 l1 0) else (none)) = some r:=h
 clear h
 by_cases c3 : (l0.length : Int) = (l1.length : Int)
 rotate_left
 ·rw [if_neg c3] at H
  cases H


 rw [if_pos c3] at H
 have c3b0 : ((l0.length : Int) == (l1.length : Int)) = true:=beq_iff_eq.mpr c3
 have c3b1 : ((l0.length : Int) != (l1.length : Int)) = false:=bne_eq_false_iff_eq.mpr c3
 have c3b2 : (l0.length == l1.length) = true:=by first|simpa using c3|(simp at c3 ⊢;omega)
 clear c3
 have H':=zm_ H
 clear H
 go_enter Tryz.func163,Tryz.ntmps163
 go_wp2
 go_loopg [5] k (fun kq v5 w' => ∃ (x5_1 : Int),v5 = .int .i64 x5_1 ∧ Aside0 (laws_eqExprS.l0 kq l0 l1 x5_1 = some r) ∧ Aside0 (kq ≤ k) ∧ Aside0 (Below w.heap.size w w'))
 case atStart => exact ⟨(0),zV_,H',⟨Nat.le_refl _⟩,⟨zG_⟩⟩
 case round =>
  clear H'
  obtain ⟨x5_1,rfl,HA,HK1,HB⟩:=hrel
  cases gk with
  |zero => exact absurd HA.out (by simp [laws_eqExprS.l0])
  |succ k1 =>
   have H:=HA.out
   clear HA
   simp only [laws_eqExprS.l0] at H
   by_cases c4 : x5_1 < (l0.length : Int)
   rotate_left
   ·rw [if_neg c4] at H
    have c4b0:=decide_eq_false c4
    clear c4
    obtain rfl:=zi_ H
    go_wp2
    go_ret
    exact ⟨zE_,zG_⟩
   rw [if_pos c4] at H
   have c4b0:=decide_eq_true c4
   clear c4
   by_cases c5 : 0 ≤ x5_1
   rotate_left
   ·rw [if_neg c5] at H
    cases H
   rw [if_pos c5] at H
   have c5b0:=decide_eq_true c5
   clear c5
   by_cases c6 : x5_1 < (l1.length : Int)
   rotate_left
   ·rw [if_neg c6] at H
    cases H
   rw [if_pos c6] at H
   have c6b0:=decide_eq_true c6
   clear c6
   obtain ⟨t467,A7,H⟩:=zJ_ H
   try dsimp only at H
   by_cases c8 : t467 = true
   rotate_left
   ·replace c8:=Bool.eq_false_iff.mpr c8
    subst c8
    rw [zF_] at H
    cases H
   subst c8
   rw [if_pos rfl] at H
   have H':=zm_ H
   clear H
   try go_wp2
   have n0_:=zm_ (zd_ HB.out)
   clear HB
   have HB:=n0_
   clear n0_
   have p465 : 0 ≤ (x5_1 : Int):=zo_
   have q465 : x5_1 < (l0.length : Int):=zo_
   obtain ⟨ad465,A465_0,c465_0,e465,hx465_0,hl465_0,hi465_0⟩:=at_T123 HR0.out x5_1 p465 q465
   have hw465_0:=hx465_0
   cases e465
   replace hx465_0:=(HB.out.cell (zb_ w _ hx465_0)).trans hx465_0
   have HR465_0:=zm_ hi465_0
   have HC465_0:=zm_ hl465_0
   clear hi465_0 hl465_0
   replace p465:=eq_true p465
   replace q465:=eq_true q465
   have p466 : 0 ≤ (x5_1 : Int):=zo_
   have q466 : x5_1 < (l1.length : Int):=zo_
   obtain ⟨ad466,A466_0,c466_0,e466,hx466_0,hl466_0,hi466_0⟩:=at_T123 HR1.out x5_1 p466 q466
   have hw466_0:=hx466_0
   cases e466
   replace hx466_0:=(HB.out.cell (zb_ w _ hx466_0)).trans hx466_0
   have HR466_0:=zm_ hi466_0
   have HC466_0:=zm_ hl466_0
   clear hi466_0 hl466_0
   replace p466:=eq_true p466
   replace q466:=eq_true q466
   refine start_ (n:=10) (S:=fun w' => w'.cell? (ad465.add (x5_1).toNat) = some (.slice A465_0 ((rd_T123 l0 x5_1).f0).length c465_0) ∧ w'.cell? (ad466.add (x5_1).toNat) = some (.slice A466_0 ((rd_T123 l1 x5_1).f0).length c466_0)) (ds:=[]) #[false,false,false,false,false,false,false,false,false,false] (by kernel_rfl) rfl rfl ⟨((HB.out.cell (zb_ w _ hw465_0)).trans hw465_0),((HB.out.cell (zb_ w _ hw466_0)).trans hw466_0)⟩ (fun hHeld => ?_);refine with_tabW laws_eqExprS.tab6 laws_eqExprS.bits6 (fun HT_ HW_ => ?_)
   generalize wr.drew = w9 at HB HR465_0 HR466_0 hx465_0 hx466_0 hHeld ⊢
   refine zp_ 0 (some 17) ?_
   refine zp_ 1 (some 18) ?_
   refine zp_ 2 (some 19) ?_
   refine zp_ 4 (some 21) ?_
   refine zp_ 5 (some 22) ?_
   refine zp_ 6 (some 23) ?_
   refine zk2_ 3 (some 20) ?_
   refine zk2_ 7 (some 24) ?_
   refine one_ (i:=8) (N:=some 25) #[true,true,true,true,true,true,true,true,true,false] rfl rfl (one_of HT_.out (by kernel_rfl)) (by decide) (fun K hK => ?_)
   refine goes_ Tryz.func176 (by kernel_rfl) rfl #[.agg #[.slice A465_0 ((rd_T123 l0 x5_1).f0).length c465_0],.agg #[.slice A466_0 ((rd_T123 l1 x5_1).f0).length c466_0]] (by rfl) rfl rfl zq_ ?_
   with_reducible refine (laws_eqExpr.calls k1 _ _ ((rd_T123 l0 x5_1).f0) _ _ ((rd_T123 l1 x5_1).f0) true _ ?side1 ?side2 ?side3 ?side4 A7.out).mono ?_
   (case side1 => exact zP_)
   (case side2 => exact HC465_0.out)
   (case side3 => exact zP_)
   (case side4 => exact HC466_0.out)
   rintro e w10 ⟨rfl,hb⟩
   refine ⟨_,rfl,?_⟩
   have n0_:=zm_ (below_step zB_ hb)
   clear HB
   have HB:=n0_
   clear n0_
   (try clear hb)
   (try clear hb2)
   (try clear hk)
   (try clear hi)
   refine hK.out _ _ ⟨((HB.out.cell (zb_ w _ hw465_0)).trans hw465_0),((HB.out.cell (zb_ w _ hw466_0)).trans hw466_0)⟩ (fun hHeld => ?_)
   clear hK K
   refine zm2_ ?_
   refine zp_ 9 (some 26) ?_
   refine done_ (done_of HT_.out (by kernel_rfl)) ?_
   try go_wp2
   go_roundg k1
   case measure => have:=HK1.out;omega
   case rel => exact ⟨(wrap64 (x5_1 + 1)),zV_,H',⟨by have:=HK1.out;omega⟩,⟨zG_⟩⟩
def laws_eqSym.f (k : Nat) (a0_0 : Int) (a0_1 : ByteArray) (l0_2 : List (S123)) (a0_3 : ByteArray) (a1_0 : Int) (a1_1 : ByteArray) (l1_2 : List (S123)) (a1_3 : ByteArray) : Option (Bool):=if a0_0 = a1_0 then (if a0_1.toList = a1_1.toList then ((laws_eqExprS.f k l0_2 l1_2).bind fun t470 => (if t470 = true then (if a0_3.toList = a1_3.toList then (some true) else (none)) else (none))) else (none)) else (none)
theorem laws_eqSym.calls (k : Nat) (a0_0 : Int) (a0_1 : ByteArray) (A0_2 : Option Addr) (c0_2 : Nat) (l0_2 : List (S123)) (a0_3 : ByteArray) (a1_0 : Int) (a1_1 : ByteArray) (A1_2 : Option Addr) (c1_2 : Nat) (l1_2 : List (S123)) (a1_3 : ByteArray) (r : Bool) (w : World) (hr0_2 : Kd.C k123 w A0_2 l0_2.length l0_2) (hc0_2 : l0_2.length ≤ c0_2) (hr1_2 : Kd.C k123 w A1_2 l1_2.length l1_2) (hc1_2 : l1_2.length ≤ c1_2) (h : laws_eqSym.f k a0_0 a0_1 l0_2 a0_3 a1_0 a1_1 l1_2 a1_3 = some r) :
  Calls Tryz.prog 139 #[.agg #[.int .i64 a0_0,.string a0_1,.slice A0_2 l0_2.length c0_2,.string a0_3],.agg #[.int .i64 a1_0,.string a1_1,.slice A1_2 l1_2.length c1_2,.string a1_3]] w fun e w' => e = .returned (.bool r) ∧ Below w.heap.size w w':=by
 have hu76:=Tryz.underlying76
 have HR0_2:=zm_ hr0_2
 have HC0_2:=zm_ hc0_2
 clear hr0_2 hc0_2
 have HR1_2:=zm_ hr1_2
 have HC1_2:=zm_ hc1_2
 clear hr1_2 hc1_2
 have HB:=zm_ (Below.refl w.heap.size w)
 have H : (if a0_0 = a1_0 then (if a0_1.toList = a1_1.toList then ((laws_eqExprS.f k l0_2 l1_2).bind fun t470 => (if t470 = true then (if a0_3.toList = a1_3.toList then (some true) else (none)) else (none))) else (none)) else (none)) = some r:=h
 clear h
 by_cases c3 : a0_0 = a1_0
 rotate_left
 ·rw [if_neg c3] at H
  cases H


 rw [if_pos c3] at H
 have c3b0 : (a0_0 == a1_0) = true:=beq_iff_eq.mpr c3
 have c3b1 : (a0_0 != a1_0) = false:=bne_eq_false_iff_eq.mpr c3
 clear c3
 by_cases c4 : a0_1.toList = a1_1.toList
 rotate_left
 ·rw [if_neg c4] at H
  cases H
 rw [if_pos c4] at H
 have c4b0 : (a0_1.toList == a1_1.toList) = true:=beq_iff_eq.mpr c4
 have c4b1 : (a0_1.toList != a1_1.toList) = false:=bne_eq_false_iff_eq.mpr c4
 clear c4
 obtain ⟨t470,A5,H⟩:=zJ_ H
 try dsimp only at H
 by_cases c6 : t470 = true
 rotate_left
 ·replace c6:=Bool.eq_false_iff.mpr c6
  subst c6
  rw [zF_] at H
  cases H
 subst c6
 rw [if_pos rfl] at H
 by_cases c7 : a0_3.toList = a1_3.toList
 rotate_left
 ·rw [if_neg c7] at H
  cases H
 rw [if_pos c7] at H
 have c7b0 : (a0_3.toList == a1_3.toList) = true:=beq_iff_eq.mpr c7
 have c7b1 : (a0_3.toList != a1_3.toList) = false:=bne_eq_false_iff_eq.mpr c7
 clear c7
 obtain rfl:=zi_ H
 go_enter Tryz.func139,Tryz.ntmps139
 go_wp2_with (first|((with_reducible refine gate_dst (N:=2) rfl ?_);refine box_event ?hg (N:=2) ?hd (cs:=#[.int .i64 a0_0,.string a0_1,.slice A0_2 l0_2.length c0_2,.string a0_3]) (t:=76) ?hr ?_;(case hd => rfl);(case hg => rfl);(case hr => first|(go_simp;done)|(go_simp;rfl));intro gb468 hg w8 hbox hb;have n0_:=zm_ (below_step zB_ hb);have n1_:=zm_ (hbox);have n2_:=zm_ ((by rw [hg];exact (below_size zB_) : w.heap.size ≤ gb468));have n3_:=zm_ ((by rw [hg];exact (below_size zB_) : w.heap.size ≤ gb468));clear HB;have HB:=n0_;have BK468:=n1_;have GW468:=n2_;have GE468:=n3_;clear n0_ n1_ n2_ n3_;clear hb hbox hg)|((with_reducible refine gate_dst (N:=3) rfl ?_);refine box_event ?hg (N:=3) ?hd (cs:=#[.int .i64 a1_0,.string a1_1,.slice A1_2 l1_2.length c1_2,.string a1_3]) (t:=76) ?hr ?_;(case hd => rfl);(case hg => rfl);(case hr => first|(go_simp;done)|(go_simp;rfl));intro gb469 hg w9 hbox hb;have n0_:=zm_ (blk_below (g:=gb468) (o:=.cells #[.int .i64 a0_0,.string a0_1,.slice A0_2 l0_2.length c0_2,.string a0_3] 76 (0,0)) zK_ hb);have n1_:=zm_ (below_step zG_ hb);have n2_:=zm_ (hbox);have n3_:=zm_ ((by rw [hg];exact (below_size zG_) : w.heap.size ≤ gb469));have n4_:=zm_ ((by rw [hg];exact (below_size zG_) : w.heap.size ≤ gb469));have n5_:=zm_ ((by rw [hg];exact Nat.ne_of_lt (blk_lt (g:=gb468) (o:=.cells #[.int .i64 a0_0,.string a0_1,.slice A0_2 l0_2.length c0_2,.string a0_3] 76 (0,0)) zK_) : gb468 ≠ gb469));have n6_:=zm_ ((by rw [hg];exact Nat.ne_of_gt (blk_lt (g:=gb468) (o:=.cells #[.int .i64 a0_0,.string a0_1,.slice A0_2 l0_2.length c0_2,.string a0_3] 76 (0,0)) zK_) : gb469 ≠ gb468));clear BK468;clear HB;have BK468:=n0_;have HB:=n1_;have BK469:=n2_;have GW469:=n3_;have GE469:=n4_;have NB468_469:=n5_;have NB469_468:=n6_;clear n0_ n1_ n2_ n3_ n4_ n5_ n6_;clear hb hbox hg;have hnb10:=NB468_469.out;have hnc10:=NB469_468.out;have hcz11_0 : w9.cell? ⟨gb468,0,none⟩ = some (.int .i64 a0_0):=(zc_ BK468.out 0).trans rfl;have hcz11_1 : w9.cell? ⟨gb468,1,none⟩ = some (.string a0_1):=(zc_ BK468.out 1).trans rfl;have hcz11_2 : w9.cell? ⟨gb468,2,none⟩ = some (.slice A0_2 l0_2.length c0_2):=(zc_ BK468.out 2).trans rfl;have hcz11_3 : w9.cell? ⟨gb468,3,none⟩ = some (.string a0_3):=(zc_ BK468.out 3).trans rfl;have hfz11_0:=zf_ BK468.out 0;have hfz11_1:=zf_ BK468.out 1;have hfz11_2:=zf_ BK468.out 2;have hfz11_3:=zf_ BK468.out 3;have hcz12_0 : w9.cell? ⟨gb469,0,none⟩ = some (.int .i64 a1_0):=(zc_ BK469.out 0).trans rfl;have hcz12_1 : w9.cell? ⟨gb469,1,none⟩ = some (.string a1_1):=(zc_ BK469.out 1).trans rfl;have hcz12_2 : w9.cell? ⟨gb469,2,none⟩ = some (.slice A1_2 l1_2.length c1_2):=(zc_ BK469.out 2).trans rfl;have hcz12_3 : w9.cell? ⟨gb469,3,none⟩ = some (.string a1_3):=(zc_ BK469.out 3).trans rfl;have hfz12_0:=zf_ BK469.out 0;have hfz12_1:=zf_ BK469.out 1;have hfz12_2:=zf_ BK469.out 2;have hfz12_3:=zf_ BK469.out 3)|((with_reducible refine gate_callee (f:=163) rfl ?_);refine goesL_ (some 19) rfl rfl Tryz.func163 (by kernel_rfl) rfl #[.slice A0_2 l0_2.length c0_2,.slice A1_2 l1_2.length c1_2] rfl zq_ ?_;(with_reducible refine (laws_eqExprS.calls k _ _ l0_2 _ _ l1_2 true _ ?side1 ?side2 ?side3 ?side4 A5.out).mono ?_);(case side1 => exact zP_);(case side2 => exact HC0_2.out);(case side3 => exact zP_);(case side4 => exact HC1_2.out);rintro e w13 ⟨rfl,hb⟩;refine ⟨_,rfl,?_⟩;have n0_:=zm_ (blk_below (g:=gb468) (o:=.cells #[.int .i64 a0_0,.string a0_1,.slice A0_2 l0_2.length c0_2,.string a0_3] 76 (0,0)) zK_ hb);have n1_:=zm_ (blk_below (g:=gb469) (o:=.cells #[.int .i64 a1_0,.string a1_1,.slice A1_2 l1_2.length c1_2,.string a1_3] 76 (0,0)) zK_ hb);have n2_:=zm_ (below_step zG_ hb);clear BK468;clear BK469;clear HB;have BK468:=n0_;have BK469:=n1_;have HB:=n2_;clear n0_ n1_ n2_;(try clear hb);have hcz14_0 : w13.cell? ⟨gb468,0,none⟩ = some (.int .i64 a0_0):=(zc_ BK468.out 0).trans rfl;have hcz14_1 : w13.cell? ⟨gb468,1,none⟩ = some (.string a0_1):=(zc_ BK468.out 1).trans rfl;have hcz14_2 : w13.cell? ⟨gb468,2,none⟩ = some (.slice A0_2 l0_2.length c0_2):=(zc_ BK468.out 2).trans rfl;have hcz14_3 : w13.cell? ⟨gb468,3,none⟩ = some (.string a0_3):=(zc_ BK468.out 3).trans rfl;have hfz14_0:=zf_ BK468.out 0;have hfz14_1:=zf_ BK468.out 1;have hfz14_2:=zf_ BK468.out 2;have hfz14_3:=zf_ BK468.out 3;have hcz15_0 : w13.cell? ⟨gb469,0,none⟩ = some (.int .i64 a1_0):=(zc_ BK469.out 0).trans rfl;have hcz15_1 : w13.cell? ⟨gb469,1,none⟩ = some (.string a1_1):=(zc_ BK469.out 1).trans rfl;have hcz15_2 : w13.cell? ⟨gb469,2,none⟩ = some (.slice A1_2 l1_2.length c1_2):=(zc_ BK469.out 2).trans rfl;have hcz15_3 : w13.cell? ⟨gb469,3,none⟩ = some (.string a1_3):=(zc_ BK469.out 3).trans rfl;have hfz15_0:=zf_ BK469.out 0;have hfz15_1:=zf_ BK469.out 1;have hfz15_2:=zf_ BK469.out 2;have hfz15_3:=zf_ BK469.out 3))
 go_ret
 exact ⟨zE_,zG_⟩
end Go.Proofs.YtkbgmojomgelbaaGreat.MFnExactGrammarOk
