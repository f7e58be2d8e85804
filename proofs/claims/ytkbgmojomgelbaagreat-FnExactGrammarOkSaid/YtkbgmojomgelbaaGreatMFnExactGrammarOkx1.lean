import Derived.Test.YtkbgmojomgelbaaGreatMFnExactGrammarOkx0
namespace Go.Proofs.YtkbgmojomgelbaaGreat.MFnExactGrammarOk
open Go.RowKit Go.Proofs.YtkbgmojomgelbaaGreatW.PrintWords Go.Proofs.YtkbgmojomgelbaaGreatW.PrintLast Go.Proofs.YtkbgmojomgelbaaGreatW.PrintMore
attribute [local go_sem] max2_int min2_int max_two min_two max_three min_three max_four min_four
set_option linter.unusedVariables false
set_option linter.unusedSimpArgs false
set_option maxHeartbeats 8000000
set_option maxRecDepth 100000

def laws_szStringS.l0 : Nat → List ByteArray → Int → Int → Option (Int)
 |0,_,_,_ => none
 |k + 1,x0,x1,x5 => if x5 < (x0.length : Int) then (if 0 ≤ x5 then (if (wrap64 (x1 - ((rdOf ByteArray.empty x0 x5).size : Int))) < 0 then (some (-1)) else (laws_szStringS.l0 k x0 (wrap64 (x1 - ((rdOf ByteArray.empty x0 x5).size : Int))) (wrap64 (x5 + 1)))) else (none)) else (some x1)
def laws_szStringS.f (k : Nat) (l0 : List ByteArray) (a1 : Int) : Option (Int):=if (wrap64 (a1 - (l0.length : Int))) < 0 then (some (-1)) else (laws_szStringS.l0 k l0 (wrap64 (a1 - (l0.length : Int))) 0)
theorem laws_szStringS.calls (k : Nat) (A0 : Option Addr) (c0 : Nat) (l0 : List ByteArray) (a1 : Int) (r : Int) (w : World) (hr0 : Kd.C Kd.string w A0 l0.length l0) (hc0 : l0.length ≤ c0) (h : laws_szStringS.f k l0 a1 = some r) :
  Calls Tryz.prog 62 #[.slice A0 l0.length c0,.int .i64 a1] w fun e w' => e = .returned (.int .i64 r) ∧ Drawn0 w w':=by
 have HR0:=zm_ hr0
 have HC0:=zm_ hc0
 clear hr0 hc0
 have H : (if (wrap64 (a1 - (l0.length : Int))) < 0 then (some (-1)) else (laws_szStringS.l0 k l0 (wrap64 (a1 - (l0.length : Int))) 0)) = some r:=h
 clear h
 by_cases c3 : (wrap64 (a1 - (l0.length : Int))) < 0
 ·rw [if_pos c3] at H
  have c3b0:=decide_eq_true c3
  clear c3
  obtain rfl:=zi_ H
  go_enter Tryz.func62,Tryz.ntmps62
  go_wp2
  go_ret
  exact zX_
 rw [if_neg c3] at H
 have c3b0:=decide_eq_false c3
 clear c3
 have H':=zm_ H
 clear H
 go_enter Tryz.func62,Tryz.ntmps62
 go_wp2
 go_loopg [1,5] k (fun kq v1 v5 w' => ∃ (x1_1 : Int) (x5_1 : Int),v1 = .int .i64 x1_1 ∧ v5 = .int .i64 x5_1 ∧ Aside0 (laws_szStringS.l0 kq l0 x1_1 x5_1 = some r) ∧ Aside0 (kq ≤ k) ∧ Drawn0 w w')
 case atStart => exact ⟨(wrap64 (a1 - (l0.length : Int))),(0),zV_,zV_,H',⟨Nat.le_refl _⟩,by repeat (first|exact Drawn0.refl _|apply Drawn0.step)⟩
 case round =>
  clear H'
  obtain ⟨x1_1,x5_1,rfl,rfl,HA,HK1,⟨m1,rfl⟩⟩:=hrel
  cases gk with
  |zero => exact absurd HA.out (by simp [laws_szStringS.l0])
  |succ k1 =>
   have H:=HA.out
   clear HA
   simp only [laws_szStringS.l0] at H
   by_cases c4 : x5_1 < (l0.length : Int)
   rotate_left
   ·rw [if_neg c4] at H
    have c4b0:=decide_eq_false c4
    clear c4
    obtain rfl:=zi_ H
    go_wp2
    go_ret
    exact zX_


   rw [if_pos c4] at H
   have c4b0:=decide_eq_true c4
   clear c4
   by_cases c5 : 0 ≤ x5_1
   rotate_left
   ·rw [if_neg c5] at H
    cases H
   rw [if_pos c5] at H
   have c5b0:=decide_eq_true c5
   clear c5
   by_cases c6 : (wrap64 (x1_1 - ((rdOf ByteArray.empty l0 x5_1).size : Int))) < 0
   ·rw [if_pos c6] at H
    have c6b0:=decide_eq_true c6
    clear c6
    obtain rfl:=zi_ H
    have p101 : 0 ≤ (x5_1 : Int):=zo_
    have q101 : x5_1 < (l0.length : Int):=zo_
    obtain ⟨ad101,e101,hx101_0⟩:=Kd.at_string HR0.out x5_1 p101 q101
    cases e101
    replace p101:=eq_true p101
    replace q101:=eq_true q101
    go_wp2
    go_ret
    exact zX_
   rw [if_neg c6] at H
   have c6b0:=decide_eq_false c6
   clear c6
   have H':=zm_ H
   clear H
   have p101 : 0 ≤ (x5_1 : Int):=zo_
   have q101 : x5_1 < (l0.length : Int):=zo_
   obtain ⟨ad101,e101,hx101_0⟩:=Kd.at_string HR0.out x5_1 p101 q101
   cases e101
   replace p101:=eq_true p101
   replace q101:=eq_true q101
   go_wp2
   go_roundg k1
   case measure => have:=HK1.out;omega
   case rel => exact ⟨(wrap64 (x1_1 - ((rdOf ByteArray.empty l0 x5_1).size : Int))),(wrap64 (x5_1 + 1)),zV_,zV_,H',⟨by have:=HK1.out;omega⟩,by repeat (first|exact Drawn0.refl _|apply Drawn0.step)⟩
def laws_szIntS.f (l0 : List Int) (a1 : Int) : Option (Int):=if (wrap64 (a1 - (l0.length : Int))) < 0 then (some (-1)) else (some (wrap64 (a1 - (l0.length : Int))))
theorem laws_szIntS.calls (A0 : Option Addr) (c0 : Nat) (l0 : List Int) (a1 : Int) (r : Int) (w : World) (hr0 : Kd.C (Kd.int .i64) w A0 l0.length l0) (hc0 : l0.length ≤ c0) (h : laws_szIntS.f l0 a1 = some r) :
  Calls Tryz.prog 79 #[.slice A0 l0.length c0,.int .i64 a1] w fun e w' => e = .returned (.int .i64 r) ∧ Drawn0 w w':=by
 have HR0:=zm_ hr0
 have HC0:=zm_ hc0
 clear hr0 hc0
 have H : (if (wrap64 (a1 - (l0.length : Int))) < 0 then (some (-1)) else (some (wrap64 (a1 - (l0.length : Int))))) = some r:=h
 clear h
 by_cases c3 : (wrap64 (a1 - (l0.length : Int))) < 0
 ·rw [if_pos c3] at H
  have c3b0:=decide_eq_true c3
  clear c3
  obtain rfl:=zi_ H
  go_enter Tryz.func79,Tryz.ntmps79
  go_wp2
  go_ret
  exact zX_
 rw [if_neg c3] at H
 have c3b0:=decide_eq_false c3
 clear c3
 obtain rfl:=zi_ H
 go_enter Tryz.func79,Tryz.ntmps79
 go_wp2
 go_ret
 exact zX_

def laws_szExNode.f (a0_0 : Int) (a0_1 : Int) (a0_2 : ByteArray) (l0_3 : List Int) (a1 : Int) : Option (Int):=if (wrap64 (a1 - (a0_2.size : Int))) < 0 then (some (-1)) else ((laws_szIntS.f l0_3 (wrap64 (a1 - (a0_2.size : Int)))).bind fun t103 => (if t103 < 0 then (some (-1)) else (some t103)))
theorem laws_szExNode.calls (a0_0 : Int) (a0_1 : Int) (a0_2 : ByteArray) (A0_3 : Option Addr) (c0_3 : Nat) (l0_3 : List Int) (a1 : Int) (r : Int) (w : World) (hr0_3 : Kd.C (Kd.int .i64) w A0_3 l0_3.length l0_3) (hc0_3 : l0_3.length ≤ c0_3) (h : laws_szExNode.f a0_0 a0_1 a0_2 l0_3 a1 = some r) :
  Calls Tryz.prog 182 #[.agg #[.int .i64 a0_0,.int .i64 a0_1,.string a0_2,.slice A0_3 l0_3.length c0_3],.int .i64 a1] w fun e w' => e = .returned (.int .i64 r) ∧ Below w.heap.size w w':=by
 have hu219:=Tryz.underlying219
 have HR0_3:=zm_ hr0_3
 have HC0_3:=zm_ hc0_3
 clear hr0_3 hc0_3
 have HB:=zm_ (Below.refl w.heap.size w)
 have H : (if (wrap64 (a1 - (a0_2.size : Int))) < 0 then (some (-1)) else ((laws_szIntS.f l0_3 (wrap64 (a1 - (a0_2.size : Int)))).bind fun t103 => (if t103 < 0 then (some (-1)) else (some t103)))) = some r:=h
 clear h
 by_cases c3 : (wrap64 (a1 - (a0_2.size : Int))) < 0
 ·rw [if_pos c3] at H
  have c3b0:=decide_eq_true c3
  clear c3
  obtain rfl:=zi_ H
  go_enter Tryz.func182,Tryz.ntmps182
  go_wp2_with (first|((with_reducible refine gate_dst (N:=2) rfl ?_);refine box_event ?hg (N:=2) ?hd (cs:=#[.int .i64 a0_0,.int .i64 a0_1,.string a0_2,.slice A0_3 l0_3.length c0_3]) (t:=219) ?hr ?_;(case hd => rfl);(case hg => rfl);(case hr => first|(go_simp;done)|(go_simp;rfl));intro gb102 hg w4 hbox hb;have n0_:=zm_ (below_step zB_ hb);have n1_:=zm_ (hbox);have n2_:=zm_ ((by rw [hg];exact (below_size zB_) : w.heap.size ≤ gb102));have n3_:=zm_ ((by rw [hg];exact (below_size zB_) : w.heap.size ≤ gb102));clear HB;have HB:=n0_;have BK102:=n1_;have GW102:=n2_;have GE102:=n3_;clear n0_ n1_ n2_ n3_;clear hb hbox hg;have hcz5_0 : w4.cell? ⟨gb102,0,none⟩ = some (.int .i64 a0_0):=(zc_ BK102.out 0).trans rfl;have hcz5_1 : w4.cell? ⟨gb102,1,none⟩ = some (.int .i64 a0_1):=(zc_ BK102.out 1).trans rfl;have hcz5_2 : w4.cell? ⟨gb102,2,none⟩ = some (.string a0_2):=(zc_ BK102.out 2).trans rfl;have hcz5_3 : w4.cell? ⟨gb102,3,none⟩ = some (.slice A0_3 l0_3.length c0_3):=(zc_ BK102.out 3).trans rfl;have hfz5_0:=zf_ BK102.out 0;have hfz5_1:=zf_ BK102.out 1;have hfz5_2:=zf_ BK102.out 2;have hfz5_3:=zf_ BK102.out 3))
  go_ret
  exact ⟨zE_,zG_⟩
 rw [if_neg c3] at H
 have c3b0:=decide_eq_false c3
 clear c3
 obtain ⟨t103,A6,H⟩:=zJ_ H
 try dsimp only at H
 by_cases c7 : t103 < 0
 ·rw [if_pos c7] at H
  have c7b0:=decide_eq_true c7
  clear c7
  obtain rfl:=zi_ H
  go_enter Tryz.func182,Tryz.ntmps182
  go_wp2_with (first|((with_reducible refine gate_dst (N:=2) rfl ?_);refine box_event ?hg (N:=2) ?hd (cs:=#[.int .i64 a0_0,.int .i64 a0_1,.string a0_2,.slice A0_3 l0_3.length c0_3]) (t:=219) ?hr ?_;(case hd => rfl);(case hg => rfl);(case hr => first|(go_simp;done)|(go_simp;rfl));intro gb102 hg w8 hbox hb;have n0_:=zm_ (below_step zB_ hb);have n1_:=zm_ (hbox);have n2_:=zm_ ((by rw [hg];exact (below_size zB_) : w.heap.size ≤ gb102));have n3_:=zm_ ((by rw [hg];exact (below_size zB_) : w.heap.size ≤ gb102));clear HB;have HB:=n0_;have BK102:=n1_;have GW102:=n2_;have GE102:=n3_;clear n0_ n1_ n2_ n3_;clear hb hbox hg;have hcz9_0 : w8.cell? ⟨gb102,0,none⟩ = some (.int .i64 a0_0):=(zc_ BK102.out 0).trans rfl;have hcz9_1 : w8.cell? ⟨gb102,1,none⟩ = some (.int .i64 a0_1):=(zc_ BK102.out 1).trans rfl;have hcz9_2 : w8.cell? ⟨gb102,2,none⟩ = some (.string a0_2):=(zc_ BK102.out 2).trans rfl;have hcz9_3 : w8.cell? ⟨gb102,3,none⟩ = some (.slice A0_3 l0_3.length c0_3):=(zc_ BK102.out 3).trans rfl;have hfz9_0:=zf_ BK102.out 0;have hfz9_1:=zf_ BK102.out 1;have hfz9_2:=zf_ BK102.out 2;have hfz9_3:=zf_ BK102.out 3)|((with_reducible refine gate_callee (f:=79) rfl ?_);refine goesL_ (some 15) rfl rfl Tryz.func79 (by kernel_rfl) rfl #[.slice A0_3 l0_3.length c0_3,.int .i64 (wrap64 (a1 - (a0_2.size : Int)))] rfl zq_ ?_;(with_reducible refine (laws_szIntS.calls _ _ l0_3 (wrap64 (a1 - (a0_2.size : Int))) t103 _ ?side1 ?side2 A6.out).mono ?_);(case side1 => exact zP_);(case side2 => exact HC0_3.out);rintro e w' ⟨rfl,⟨nd,rfl⟩⟩;refine ⟨_,rfl,?_⟩))
  go_ret
  exact ⟨zE_,zG_⟩
 rw [if_neg c7] at H
 have c7b0:=decide_eq_false c7
 clear c7
 obtain rfl:=zi_ H
 go_enter Tryz.func182,Tryz.ntmps182
 go_wp2_with (first|((with_reducible refine gate_dst (N:=2) rfl ?_);refine box_event ?hg (N:=2) ?hd (cs:=#[.int .i64 a0_0,.int .i64 a0_1,.string a0_2,.slice A0_3 l0_3.length c0_3]) (t:=219) ?hr ?_;(case hd => rfl);(case hg => rfl);(case hr => first|(go_simp;done)|(go_simp;rfl));intro gb102 hg w10 hbox hb;have n0_:=zm_ (below_step zB_ hb);have n1_:=zm_ (hbox);have n2_:=zm_ ((by rw [hg];exact (below_size zB_) : w.heap.size ≤ gb102));have n3_:=zm_ ((by rw [hg];exact (below_size zB_) : w.heap.size ≤ gb102));clear HB;have HB:=n0_;have BK102:=n1_;have GW102:=n2_;have GE102:=n3_;clear n0_ n1_ n2_ n3_;clear hb hbox hg;have hcz11_0 : w10.cell? ⟨gb102,0,none⟩ = some (.int .i64 a0_0):=(zc_ BK102.out 0).trans rfl;have hcz11_1 : w10.cell? ⟨gb102,1,none⟩ = some (.int .i64 a0_1):=(zc_ BK102.out 1).trans rfl;have hcz11_2 : w10.cell? ⟨gb102,2,none⟩ = some (.string a0_2):=(zc_ BK102.out 2).trans rfl;have hcz11_3 : w10.cell? ⟨gb102,3,none⟩ = some (.slice A0_3 l0_3.length c0_3):=(zc_ BK102.out 3).trans rfl;have hfz11_0:=zf_ BK102.out 0;have hfz11_1:=zf_ BK102.out 1;have hfz11_2:=zf_ BK102.out 2;have hfz11_3:=zf_ BK102.out 3)|((with_reducible refine gate_callee (f:=79) rfl ?_);refine goesL_ (some 15) rfl rfl Tryz.func79 (by kernel_rfl) rfl #[.slice A0_3 l0_3.length c0_3,.int .i64 (wrap64 (a1 - (a0_2.size : Int)))] rfl zq_ ?_;(with_reducible refine (laws_szIntS.calls _ _ l0_3 (wrap64 (a1 - (a0_2.size : Int))) t103 _ ?side1 ?side2 A6.out).mono ?_);(case side1 => exact zP_);(case side2 => exact HC0_3.out);rintro e w' ⟨rfl,⟨nd,rfl⟩⟩;refine ⟨_,rfl,?_⟩))
 go_ret
 exact ⟨zE_,zG_⟩

def laws_szExNodeS.l0 : Nat → List (S219) → Int → Int → Option (Int)
 |0,_,_,_ => none
 |k + 1,x0,x1,x5 => if x5 < (x0.length : Int) then (if 0 ≤ x5 then ((laws_szExNode.f ((rd_T219 x0 x5).f0) ((rd_T219 x0 x5).f1) ((rd_T219 x0 x5).f2) ((rd_T219 x0 x5).f3) x1).bind fun t105 => (if t105 < 0 then (some (-1)) else (laws_szExNodeS.l0 k x0 t105 (wrap64 (x5 + 1))))) else (none)) else (some x1)
def laws_szExNodeS.f (k : Nat) (l0 : List (S219)) (a1 : Int) : Option (Int):=if (wrap64 (a1 - (l0.length : Int))) < 0 then (some (-1)) else (laws_szExNodeS.l0 k l0 (wrap64 (a1 - (l0.length : Int))) 0)
theorem laws_szExNodeS.calls (k : Nat) (A0 : Option Addr) (c0 : Nat) (l0 : List (S219)) (a1 : Int) (r : Int) (w : World) (hr0 : Kd.C k219 w A0 l0.length l0) (hc0 : l0.length ≤ c0) (h : laws_szExNodeS.f k l0 a1 = some r) :
  Calls Tryz.prog 177 #[.slice A0 l0.length c0,.int .i64 a1] w fun e w' => e = .returned (.int .i64 r) ∧ Below w.heap.size w w':=by
 have hu219:=Tryz.underlying219
 have HR0:=zm_ hr0
 have HC0:=zm_ hc0
 clear hr0 hc0
 have HB:=zm_ (Below.refl w.heap.size w)
 have H : (if (wrap64 (a1 - (l0.length : Int))) < 0 then (some (-1)) else (laws_szExNodeS.l0 k l0 (wrap64 (a1 - (l0.length : Int))) 0)) = some r:=h
 clear h
 by_cases c3 : (wrap64 (a1 - (l0.length : Int))) < 0
 ·rw [if_pos c3] at H
  have c3b0:=decide_eq_true c3
  clear c3
  obtain rfl:=zi_ H
  go_enter Tryz.func177,Tryz.ntmps177
  go_wp2
  go_ret
  exact ⟨zE_,zG_⟩
 rw [if_neg c3] at H
 have c3b0:=decide_eq_false c3
 clear c3
 have H':=zm_ H
 clear H
 go_enter Tryz.func177,Tryz.ntmps177
 go_wp2
 go_loopg [1,5] k (fun kq v1 v5 w' => ∃ (x1_1 : Int) (x5_1 : Int),v1 = .int .i64 x1_1 ∧ v5 = .int .i64 x5_1 ∧ Aside0 (laws_szExNodeS.l0 kq l0 x1_1 x5_1 = some r) ∧ Aside0 (kq ≤ k) ∧ Aside0 (Below w.heap.size w w'))
 case atStart => exact ⟨(wrap64 (a1 - (l0.length : Int))),(0),zV_,zV_,H',⟨Nat.le_refl _⟩,⟨zG_⟩⟩
 case round =>
  clear H'
  obtain ⟨x1_1,x5_1,rfl,rfl,HA,HK1,HB⟩:=hrel
  cases gk with
  |zero => exact absurd HA.out (by simp [laws_szExNodeS.l0])
  |succ k1 =>
   have H:=HA.out
   clear HA
   simp only [laws_szExNodeS.l0] at H
   by_cases c4 : x5_1 < (l0.length : Int)
   rotate_left
   ·rw [if_neg c4] at H
    have c4b0:=decide_eq_false c4
    clear c4
    obtain rfl:=zi_ H
    go_wp2
    go_ret
    exact ⟨zE_,zG_⟩


   rw [if_pos c4] at H
   have c4b0:=decide_eq_true c4
   clear c4
   by_cases c5 : 0 ≤ x5_1
   rotate_left
   ·rw [if_neg c5] at H
    cases H
   rw [if_pos c5] at H
   have c5b0:=decide_eq_true c5
   clear c5
   obtain ⟨t105,A6,H⟩:=zJ_ H
   try dsimp only at H
   by_cases c7 : t105 < 0
   ·rw [if_pos c7] at H
    have c7b0:=decide_eq_true c7
    clear c7
    obtain rfl:=zi_ H
    have p104 : 0 ≤ (x5_1 : Int):=zo_
    have q104 : x5_1 < (l0.length : Int):=zo_
    obtain ⟨ad104,A104_3,c104_3,e104,hx104_0,hx104_1,hx104_2,hx104_3,hl104_3,hi104_3⟩:=at_T219 HR0.out x5_1 p104 q104
    cases e104
    replace hx104_0:=(HB.out.cell (zb_ w _ hx104_0)).trans hx104_0
    replace hx104_1:=(HB.out.cell (zb_ w _ hx104_1)).trans hx104_1
    replace hx104_2:=(HB.out.cell (zb_ w _ hx104_2)).trans hx104_2
    replace hx104_3:=(HB.out.cell (zb_ w _ hx104_3)).trans hx104_3
    have HR104_3:=zm_ hi104_3
    have HC104_3:=zm_ hl104_3
    clear hi104_3 hl104_3
    replace p104:=eq_true p104
    replace q104:=eq_true q104
    go_wp2_with (first|((with_reducible refine gate_callee (f:=182) rfl ?_);refine goesL_ (some 23) rfl rfl Tryz.func182 (by kernel_rfl) rfl #[.agg #[.int .i64 ((rd_T219 l0 x5_1).f0),.int .i64 ((rd_T219 l0 x5_1).f1),.string ((rd_T219 l0 x5_1).f2),.slice A104_3 ((rd_T219 l0 x5_1).f3).length c104_3],.int .i64 x1_1] rfl zq_ ?_;(with_reducible refine (laws_szExNode.calls ((rd_T219 l0 x5_1).f0) ((rd_T219 l0 x5_1).f1) ((rd_T219 l0 x5_1).f2) _ _ ((rd_T219 l0 x5_1).f3) x1_1 t105 _ ?side1 ?side2 A6.out).mono ?_);(case side1 => exact zP_);(case side2 => exact HC104_3.out);rintro e w8 ⟨rfl,hb⟩;refine ⟨_,rfl,?_⟩;replace HB:=zm_ (below_step zB_ hb);(try clear hb)))
    go_ret
    exact ⟨zE_,zG_⟩
   rw [if_neg c7] at H
   have c7b0:=decide_eq_false c7
   clear c7
   have H':=zm_ H
   clear H
   have p104 : 0 ≤ (x5_1 : Int):=zo_
   have q104 : x5_1 < (l0.length : Int):=zo_
   obtain ⟨ad104,A104_3,c104_3,e104,hx104_0,hx104_1,hx104_2,hx104_3,hl104_3,hi104_3⟩:=at_T219 HR0.out x5_1 p104 q104
   cases e104
   replace hx104_0:=(HB.out.cell (zb_ w _ hx104_0)).trans hx104_0
   replace hx104_1:=(HB.out.cell (zb_ w _ hx104_1)).trans hx104_1
   replace hx104_2:=(HB.out.cell (zb_ w _ hx104_2)).trans hx104_2
   replace hx104_3:=(HB.out.cell (zb_ w _ hx104_3)).trans hx104_3
   have HR104_3:=zm_ hi104_3
   have HC104_3:=zm_ hl104_3
   clear hi104_3 hl104_3
   replace p104:=eq_true p104
   replace q104:=eq_true q104
   go_wp2_with (first|((with_reducible refine gate_callee (f:=182) rfl ?_);refine goesL_ (some 23) rfl rfl Tryz.func182 (by kernel_rfl) rfl #[.agg #[.int .i64 ((rd_T219 l0 x5_1).f0),.int .i64 ((rd_T219 l0 x5_1).f1),.string ((rd_T219 l0 x5_1).f2),.slice A104_3 ((rd_T219 l0 x5_1).f3).length c104_3],.int .i64 x1_1] rfl zq_ ?_;(with_reducible refine (laws_szExNode.calls ((rd_T219 l0 x5_1).f0) ((rd_T219 l0 x5_1).f1) ((rd_T219 l0 x5_1).f2) _ _ ((rd_T219 l0 x5_1).f3) x1_1 t105 _ ?side1 ?side2 A6.out).mono ?_);(case side1 => exact zP_);(case side2 => exact HC104_3.out);rintro e w9 ⟨rfl,hb⟩;refine ⟨_,rfl,?_⟩;replace HB:=zm_ (below_step zB_ hb);(try clear hb)))
   go_roundg k1
   case measure => have:=HK1.out;omega
   case rel => exact ⟨(t105),(wrap64 (x5_1 + 1)),zV_,zV_,H',⟨by have:=HK1.out;omega⟩,⟨zG_⟩⟩
def laws_szExpr.f (k : Nat) (l0_0 : List (S219)) (a1 : Int) : Option (Int):=(laws_szExNodeS.f k l0_0 a1).bind fun t107 => (if t107 < 0 then (some (-1)) else (some t107))
theorem laws_szExpr.calls (k : Nat) (A0_0 : Option Addr) (c0_0 : Nat) (l0_0 : List (S219)) (a1 : Int) (r : Int) (w : World) (hr0_0 : Kd.C k219 w A0_0 l0_0.length l0_0) (hc0_0 : l0_0.length ≤ c0_0) (h : laws_szExpr.f k l0_0 a1 = some r) :
  Calls Tryz.prog 164 #[.agg #[.slice A0_0 l0_0.length c0_0],.int .i64 a1] w fun e w' => e = .returned (.int .i64 r) ∧ Below w.heap.size w w':=by
 have hu200:=Tryz.underlying200
 have HR0_0:=zm_ hr0_0
 have HC0_0:=zm_ hc0_0
 clear hr0_0 hc0_0
 have HB:=zm_ (Below.refl w.heap.size w)
 have H : ((laws_szExNodeS.f k l0_0 a1).bind fun t107 => (if t107 < 0 then (some (-1)) else (some t107))) = some r:=h
 clear h
 obtain ⟨t107,A3,H⟩:=zJ_ H
 try dsimp only at H
 by_cases c4 : t107 < 0
 ·rw [if_pos c4] at H
  have c4b0:=decide_eq_true c4
  clear c4
  obtain rfl:=zi_ H
  go_enter Tryz.func164,Tryz.ntmps164
  go_wp2_with (first|((with_reducible refine gate_dst (N:=2) rfl ?_);refine box_event ?hg (N:=2) ?hd (cs:=#[.slice A0_0 l0_0.length c0_0]) (t:=200) ?hr ?_;(case hd => rfl);(case hg => rfl);(case hr => first|(go_simp;done)|(go_simp;rfl));intro gb106 hg w5 hbox hb;have n0_:=zm_ (below_step zB_ hb);have n1_:=zm_ (hbox);have n2_:=zm_ ((by rw [hg];exact (below_size zB_) : w.heap.size ≤ gb106));have n3_:=zm_ ((by rw [hg];exact (below_size zB_) : w.heap.size ≤ gb106));clear HB;have HB:=n0_;have BK106:=n1_;have GW106:=n2_;have GE106:=n3_;clear n0_ n1_ n2_ n3_;clear hb hbox hg;have hcz6_0 : w5.cell? ⟨gb106,0,none⟩ = some (.slice A0_0 l0_0.length c0_0):=(zc_ BK106.out 0).trans rfl;have hfz6_0:=zf_ BK106.out 0)|((with_reducible refine gate_callee (f:=177) rfl ?_);refine goesL_ (some 8) rfl rfl Tryz.func177 (by kernel_rfl) rfl #[.slice A0_0 l0_0.length c0_0,.int .i64 a1] rfl zq_ ?_;(with_reducible refine (laws_szExNodeS.calls k _ _ l0_0 a1 t107 _ ?side1 ?side2 A3.out).mono ?_);(case side1 => exact zP_);(case side2 => exact HC0_0.out);rintro e w7 ⟨rfl,hb⟩;refine ⟨_,rfl,?_⟩;have n0_:=zm_ (blk_below (g:=gb106) (o:=.cells #[.slice A0_0 l0_0.length c0_0] 200 (0,0)) zK_ hb);have n1_:=zm_ (below_step zG_ hb);clear BK106;clear HB;have BK106:=n0_;have HB:=n1_;clear n0_ n1_;(try clear hb)))
  go_ret
  exact ⟨zE_,zG_⟩
 rw [if_neg c4] at H
 have c4b0:=decide_eq_false c4
 clear c4
 obtain rfl:=zi_ H
 go_enter Tryz.func164,Tryz.ntmps164
 go_wp2_with (first|((with_reducible refine gate_dst (N:=2) rfl ?_);refine box_event ?hg (N:=2) ?hd (cs:=#[.slice A0_0 l0_0.length c0_0]) (t:=200) ?hr ?_;(case hd => rfl);(case hg => rfl);(case hr => first|(go_simp;done)|(go_simp;rfl));intro gb106 hg w8 hbox hb;have n0_:=zm_ (below_step zB_ hb);have n1_:=zm_ (hbox);have n2_:=zm_ ((by rw [hg];exact (below_size zB_) : w.heap.size ≤ gb106));have n3_:=zm_ ((by rw [hg];exact (below_size zB_) : w.heap.size ≤ gb106));clear HB;have HB:=n0_;have BK106:=n1_;have GW106:=n2_;have GE106:=n3_;clear n0_ n1_ n2_ n3_;clear hb hbox hg;have hcz9_0 : w8.cell? ⟨gb106,0,none⟩ = some (.slice A0_0 l0_0.length c0_0):=(zc_ BK106.out 0).trans rfl;have hfz9_0:=zf_ BK106.out 0)|((with_reducible refine gate_callee (f:=177) rfl ?_);refine goesL_ (some 8) rfl rfl Tryz.func177 (by kernel_rfl) rfl #[.slice A0_0 l0_0.length c0_0,.int .i64 a1] rfl zq_ ?_;(with_reducible refine (laws_szExNodeS.calls k _ _ l0_0 a1 t107 _ ?side1 ?side2 A3.out).mono ?_);(case side1 => exact zP_);(case side2 => exact HC0_0.out);rintro e w10 ⟨rfl,hb⟩;refine ⟨_,rfl,?_⟩;have n0_:=zm_ (blk_below (g:=gb106) (o:=.cells #[.slice A0_0 l0_0.length c0_0] 200 (0,0)) zK_ hb);have n1_:=zm_ (below_step zG_ hb);clear BK106;clear HB;have BK106:=n0_;have HB:=n1_;clear n0_ n1_;(try clear hb)))
 go_ret
 exact ⟨zE_,zG_⟩

def laws_szExprS.l0 : Nat → List (S200) → Int → Int → Option (Int)
 |0,_,_,_ => none
 |k + 1,x0,x1,x5 => if x5 < (x0.length : Int) then (if 0 ≤ x5 then ((laws_szExpr.f k ((rd_T200 x0 x5).f0) x1).bind fun t109 => (if t109 < 0 then (some (-1)) else (laws_szExprS.l0 k x0 t109 (wrap64 (x5 + 1))))) else (none)) else (some x1)
def laws_szExprS.f (k : Nat) (l0 : List (S200)) (a1 : Int) : Option (Int):=if (wrap64 (a1 - (l0.length : Int))) < 0 then (some (-1)) else (laws_szExprS.l0 k l0 (wrap64 (a1 - (l0.length : Int))) 0)
theorem laws_szExprS.calls (k : Nat) (A0 : Option Addr) (c0 : Nat) (l0 : List (S200)) (a1 : Int) (r : Int) (w : World) (hr0 : Kd.C k200 w A0 l0.length l0) (hc0 : l0.length ≤ c0) (h : laws_szExprS.f k l0 a1 = some r) :
  Calls Tryz.prog 141 #[.slice A0 l0.length c0,.int .i64 a1] w fun e w' => e = .returned (.int .i64 r) ∧ Below w.heap.size w w':=by
 have hu200:=Tryz.underlying200
 have HR0:=zm_ hr0
 have HC0:=zm_ hc0
 clear hr0 hc0
 have HB:=zm_ (Below.refl w.heap.size w)
 have H : (if (wrap64 (a1 - (l0.length : Int))) < 0 then (some (-1)) else (laws_szExprS.l0 k l0 (wrap64 (a1 - (l0.length : Int))) 0)) = some r:=h
 clear h
 by_cases c3 : (wrap64 (a1 - (l0.length : Int))) < 0
 ·rw [if_pos c3] at H
  have c3b0:=decide_eq_true c3
  clear c3
  obtain rfl:=zi_ H
  go_enter Tryz.func141,Tryz.ntmps141
  go_wp2
  go_ret
  exact ⟨zE_,zG_⟩
 rw [if_neg c3] at H
 have c3b0:=decide_eq_false c3
 clear c3
 have H':=zm_ H
 clear H
 go_enter Tryz.func141,Tryz.ntmps141
 go_wp2
 go_loopg [1,5] k (fun kq v1 v5 w' => ∃ (x1_1 : Int) (x5_1 : Int),v1 = .int .i64 x1_1 ∧ v5 = .int .i64 x5_1 ∧ Aside0 (laws_szExprS.l0 kq l0 x1_1 x5_1 = some r) ∧ Aside0 (kq ≤ k) ∧ Aside0 (Below w.heap.size w w'))
 case atStart => exact ⟨(wrap64 (a1 - (l0.length : Int))),(0),zV_,zV_,H',⟨Nat.le_refl _⟩,⟨zG_⟩⟩
 case round =>
  clear H'
  obtain ⟨x1_1,x5_1,rfl,rfl,HA,HK1,HB⟩:=hrel
  cases gk with
  |zero => exact absurd HA.out (by simp [laws_szExprS.l0])
  |succ k1 =>
   have H:=HA.out
   clear HA
   simp only [laws_szExprS.l0] at H
   by_cases c4 : x5_1 < (l0.length : Int)
   rotate_left
   ·rw [if_neg c4] at H
    have c4b0:=decide_eq_false c4
    clear c4
    obtain rfl:=zi_ H
    go_wp2
    go_ret
    exact ⟨zE_,zG_⟩


   rw [if_pos c4] at H
   have c4b0:=decide_eq_true c4
   clear c4
   by_cases c5 : 0 ≤ x5_1
   rotate_left
   ·rw [if_neg c5] at H
    cases H
   rw [if_pos c5] at H
   have c5b0:=decide_eq_true c5
   clear c5
   obtain ⟨t109,A6,H⟩:=zJ_ H
   try dsimp only at H
   by_cases c7 : t109 < 0
   ·rw [if_pos c7] at H
    have c7b0:=decide_eq_true c7
    clear c7
    obtain rfl:=zi_ H
    have p108 : 0 ≤ (x5_1 : Int):=zo_
    have q108 : x5_1 < (l0.length : Int):=zo_
    obtain ⟨ad108,A108_0,c108_0,e108,hx108_0,hl108_0,hi108_0⟩:=at_T200 HR0.out x5_1 p108 q108
    cases e108
    replace hx108_0:=(HB.out.cell (zb_ w _ hx108_0)).trans hx108_0
    have HR108_0:=zm_ hi108_0
    have HC108_0:=zm_ hl108_0
    clear hi108_0 hl108_0
    replace p108:=eq_true p108
    replace q108:=eq_true q108
    go_wp2_with (first|((with_reducible refine gate_callee (f:=164) rfl ?_);refine goesL_ (some 23) rfl rfl Tryz.func164 (by kernel_rfl) rfl #[.agg #[.slice A108_0 ((rd_T200 l0 x5_1).f0).length c108_0],.int .i64 x1_1] rfl zq_ ?_;(with_reducible refine (laws_szExpr.calls k1 _ _ ((rd_T200 l0 x5_1).f0) x1_1 t109 _ ?side1 ?side2 A6.out).mono ?_);(case side1 => exact zP_);(case side2 => exact HC108_0.out);rintro e w8 ⟨rfl,hb⟩;refine ⟨_,rfl,?_⟩;replace HB:=zm_ (below_step zB_ hb);(try clear hb)))
    go_ret
    exact ⟨zE_,zG_⟩
   rw [if_neg c7] at H
   have c7b0:=decide_eq_false c7
   clear c7
   have H':=zm_ H
   clear H
   have p108 : 0 ≤ (x5_1 : Int):=zo_
   have q108 : x5_1 < (l0.length : Int):=zo_
   obtain ⟨ad108,A108_0,c108_0,e108,hx108_0,hl108_0,hi108_0⟩:=at_T200 HR0.out x5_1 p108 q108
   cases e108
   replace hx108_0:=(HB.out.cell (zb_ w _ hx108_0)).trans hx108_0
   have HR108_0:=zm_ hi108_0
   have HC108_0:=zm_ hl108_0
   clear hi108_0 hl108_0
   replace p108:=eq_true p108
   replace q108:=eq_true q108
   go_wp2_with (first|((with_reducible refine gate_callee (f:=164) rfl ?_);refine goesL_ (some 23) rfl rfl Tryz.func164 (by kernel_rfl) rfl #[.agg #[.slice A108_0 ((rd_T200 l0 x5_1).f0).length c108_0],.int .i64 x1_1] rfl zq_ ?_;(with_reducible refine (laws_szExpr.calls k1 _ _ ((rd_T200 l0 x5_1).f0) x1_1 t109 _ ?side1 ?side2 A6.out).mono ?_);(case side1 => exact zP_);(case side2 => exact HC108_0.out);rintro e w9 ⟨rfl,hb⟩;refine ⟨_,rfl,?_⟩;replace HB:=zm_ (below_step zB_ hb);(try clear hb)))
   go_roundg k1
   case measure => have:=HK1.out;omega
   case rel => exact ⟨(t109),(wrap64 (x5_1 + 1)),zV_,zV_,H',⟨by have:=HK1.out;omega⟩,⟨zG_⟩⟩
def laws_szSym.f (k : Nat) (a0_0 : Int) (a0_1 : ByteArray) (l0_2 : List (S200)) (a0_3 : ByteArray) (a1 : Int) : Option (Int):=if (wrap64 (a1 - (a0_1.size : Int))) < 0 then (some (-1)) else ((laws_szExprS.f k l0_2 (wrap64 (a1 - (a0_1.size : Int)))).bind fun t111 => (if t111 < 0 then (some (-1)) else (if (wrap64 (t111 - (a0_3.size : Int))) < 0 then (some (-1)) else (some (wrap64 (t111 - (a0_3.size : Int)))))))
theorem laws_szSym.calls (k : Nat) (a0_0 : Int) (a0_1 : ByteArray) (A0_2 : Option Addr) (c0_2 : Nat) (l0_2 : List (S200)) (a0_3 : ByteArray) (a1 : Int) (r : Int) (w : World) (hr0_2 : Kd.C k200 w A0_2 l0_2.length l0_2) (hc0_2 : l0_2.length ≤ c0_2) (h : laws_szSym.f k a0_0 a0_1 l0_2 a0_3 a1 = some r) :
  Calls Tryz.prog 132 #[.agg #[.int .i64 a0_0,.string a0_1,.slice A0_2 l0_2.length c0_2,.string a0_3],.int .i64 a1] w fun e w' => e = .returned (.int .i64 r) ∧ Below w.heap.size w w':=by
 have hu170:=Tryz.underlying170
 have HR0_2:=zm_ hr0_2
 have HC0_2:=zm_ hc0_2
 clear hr0_2 hc0_2
 have HB:=zm_ (Below.refl w.heap.size w)
 have H : (if (wrap64 (a1 - (a0_1.size : Int))) < 0 then (some (-1)) else ((laws_szExprS.f k l0_2 (wrap64 (a1 - (a0_1.size : Int)))).bind fun t111 => (if t111 < 0 then (some (-1)) else (if (wrap64 (t111 - (a0_3.size : Int))) < 0 then (some (-1)) else (some (wrap64 (t111 - (a0_3.size : Int)))))))) = some r:=h
 clear h
 by_cases c3 : (wrap64 (a1 - (a0_1.size : Int))) < 0
 ·rw [if_pos c3] at H
  have c3b0:=decide_eq_true c3
  clear c3
  obtain rfl:=zi_ H
  go_enter Tryz.func132,Tryz.ntmps132
  go_wp2_with (first|((with_reducible refine gate_dst (N:=2) rfl ?_);refine box_event ?hg (N:=2) ?hd (cs:=#[.int .i64 a0_0,.string a0_1,.slice A0_2 l0_2.length c0_2,.string a0_3]) (t:=170) ?hr ?_;(case hd => rfl);(case hg => rfl);(case hr => first|(go_simp;done)|(go_simp;rfl));intro gb110 hg w4 hbox hb;have n0_:=zm_ (below_step zB_ hb);have n1_:=zm_ (hbox);have n2_:=zm_ ((by rw [hg];exact (below_size zB_) : w.heap.size ≤ gb110));have n3_:=zm_ ((by rw [hg];exact (below_size zB_) : w.heap.size ≤ gb110));clear HB;have HB:=n0_;have BK110:=n1_;have GW110:=n2_;have GE110:=n3_;clear n0_ n1_ n2_ n3_;clear hb hbox hg;have hcz5_0 : w4.cell? ⟨gb110,0,none⟩ = some (.int .i64 a0_0):=(zc_ BK110.out 0).trans rfl;have hcz5_1 : w4.cell? ⟨gb110,1,none⟩ = some (.string a0_1):=(zc_ BK110.out 1).trans rfl;have hcz5_2 : w4.cell? ⟨gb110,2,none⟩ = some (.slice A0_2 l0_2.length c0_2):=(zc_ BK110.out 2).trans rfl;have hcz5_3 : w4.cell? ⟨gb110,3,none⟩ = some (.string a0_3):=(zc_ BK110.out 3).trans rfl;have hfz5_0:=zf_ BK110.out 0;have hfz5_1:=zf_ BK110.out 1;have hfz5_2:=zf_ BK110.out 2;have hfz5_3:=zf_ BK110.out 3))
  go_ret
  exact ⟨zE_,zG_⟩
 rw [if_neg c3] at H
 have c3b0:=decide_eq_false c3
 clear c3
 obtain ⟨t111,A6,H⟩:=zJ_ H
 try dsimp only at H
 by_cases c7 : t111 < 0
 ·rw [if_pos c7] at H
  have c7b0:=decide_eq_true c7
  clear c7
  obtain rfl:=zi_ H
  go_enter Tryz.func132,Tryz.ntmps132
  go_wp2_with (first|((with_reducible refine gate_dst (N:=2) rfl ?_);refine box_event ?hg (N:=2) ?hd (cs:=#[.int .i64 a0_0,.string a0_1,.slice A0_2 l0_2.length c0_2,.string a0_3]) (t:=170) ?hr ?_;(case hd => rfl);(case hg => rfl);(case hr => first|(go_simp;done)|(go_simp;rfl));intro gb110 hg w8 hbox hb;have n0_:=zm_ (below_step zB_ hb);have n1_:=zm_ (hbox);have n2_:=zm_ ((by rw [hg];exact (below_size zB_) : w.heap.size ≤ gb110));have n3_:=zm_ ((by rw [hg];exact (below_size zB_) : w.heap.size ≤ gb110));clear HB;have HB:=n0_;have BK110:=n1_;have GW110:=n2_;have GE110:=n3_;clear n0_ n1_ n2_ n3_;clear hb hbox hg;have hcz9_0 : w8.cell? ⟨gb110,0,none⟩ = some (.int .i64 a0_0):=(zc_ BK110.out 0).trans rfl;have hcz9_1 : w8.cell? ⟨gb110,1,none⟩ = some (.string a0_1):=(zc_ BK110.out 1).trans rfl;have hcz9_2 : w8.cell? ⟨gb110,2,none⟩ = some (.slice A0_2 l0_2.length c0_2):=(zc_ BK110.out 2).trans rfl;have hcz9_3 : w8.cell? ⟨gb110,3,none⟩ = some (.string a0_3):=(zc_ BK110.out 3).trans rfl;have hfz9_0:=zf_ BK110.out 0;have hfz9_1:=zf_ BK110.out 1;have hfz9_2:=zf_ BK110.out 2;have hfz9_3:=zf_ BK110.out 3)|((with_reducible refine gate_callee (f:=141) rfl ?_);refine goesL_ (some 15) rfl rfl Tryz.func141 (by kernel_rfl) rfl #[.slice A0_2 l0_2.length c0_2,.int .i64 (wrap64 (a1 - (a0_1.size : Int)))] rfl zq_ ?_;(with_reducible refine (laws_szExprS.calls k _ _ l0_2 (wrap64 (a1 - (a0_1.size : Int))) t111 _ ?side1 ?side2 A6.out).mono ?_);(case side1 => exact zP_);(case side2 => exact HC0_2.out);rintro e w10 ⟨rfl,hb⟩;refine ⟨_,rfl,?_⟩;have n0_:=zm_ (blk_below (g:=gb110) (o:=.cells #[.int .i64 a0_0,.string a0_1,.slice A0_2 l0_2.length c0_2,.string a0_3] 170 (0,0)) zK_ hb);have n1_:=zm_ (below_step zG_ hb);clear BK110;clear HB;have BK110:=n0_;have HB:=n1_;clear n0_ n1_;(try clear hb)))
  go_ret
  exact ⟨zE_,zG_⟩
 rw [if_neg c7] at H
 have c7b0:=decide_eq_false c7
 clear c7
 by_cases c11 : (wrap64 (t111 - (a0_3.size : Int))) < 0
 ·rw [if_pos c11] at H
  have c11b0:=decide_eq_true c11
  clear c11
  obtain rfl:=zi_ H
  go_enter Tryz.func132,Tryz.ntmps132
  go_wp2_with (first|((with_reducible refine gate_dst (N:=2) rfl ?_);refine box_event ?hg (N:=2) ?hd (cs:=#[.int .i64 a0_0,.string a0_1,.slice A0_2 l0_2.length c0_2,.string a0_3]) (t:=170) ?hr ?_;(case hd => rfl);(case hg => rfl);(case hr => first|(go_simp;done)|(go_simp;rfl));intro gb110 hg w12 hbox hb;have n0_:=zm_ (below_step zB_ hb);have n1_:=zm_ (hbox);have n2_:=zm_ ((by rw [hg];exact (below_size zB_) : w.heap.size ≤ gb110));have n3_:=zm_ ((by rw [hg];exact (below_size zB_) : w.heap.size ≤ gb110));clear HB;have HB:=n0_;have BK110:=n1_;have GW110:=n2_;have GE110:=n3_;clear n0_ n1_ n2_ n3_;clear hb hbox hg;have hcz13_0 : w12.cell? ⟨gb110,0,none⟩ = some (.int .i64 a0_0):=(zc_ BK110.out 0).trans rfl;have hcz13_1 : w12.cell? ⟨gb110,1,none⟩ = some (.string a0_1):=(zc_ BK110.out 1).trans rfl;have hcz13_2 : w12.cell? ⟨gb110,2,none⟩ = some (.slice A0_2 l0_2.length c0_2):=(zc_ BK110.out 2).trans rfl;have hcz13_3 : w12.cell? ⟨gb110,3,none⟩ = some (.string a0_3):=(zc_ BK110.out 3).trans rfl;have hfz13_0:=zf_ BK110.out 0;have hfz13_1:=zf_ BK110.out 1;have hfz13_2:=zf_ BK110.out 2;have hfz13_3:=zf_ BK110.out 3)|((with_reducible refine gate_callee (f:=141) rfl ?_);refine goesL_ (some 15) rfl rfl Tryz.func141 (by kernel_rfl) rfl #[.slice A0_2 l0_2.length c0_2,.int .i64 (wrap64 (a1 - (a0_1.size : Int)))] rfl zq_ ?_;(with_reducible refine (laws_szExprS.calls k _ _ l0_2 (wrap64 (a1 - (a0_1.size : Int))) t111 _ ?side1 ?side2 A6.out).mono ?_);(case side1 => exact zP_);(case side2 => exact HC0_2.out);rintro e w14 ⟨rfl,hb⟩;refine ⟨_,rfl,?_⟩;have n0_:=zm_ (blk_below (g:=gb110) (o:=.cells #[.int .i64 a0_0,.string a0_1,.slice A0_2 l0_2.length c0_2,.string a0_3] 170 (0,0)) zK_ hb);have n1_:=zm_ (below_step zG_ hb);clear BK110;clear HB;have BK110:=n0_;have HB:=n1_;clear n0_ n1_;(try clear hb);have hcz15_0 : w14.cell? ⟨gb110,0,none⟩ = some (.int .i64 a0_0):=(zc_ BK110.out 0).trans rfl;have hcz15_1 : w14.cell? ⟨gb110,1,none⟩ = some (.string a0_1):=(zc_ BK110.out 1).trans rfl;have hcz15_2 : w14.cell? ⟨gb110,2,none⟩ = some (.slice A0_2 l0_2.length c0_2):=(zc_ BK110.out 2).trans rfl;have hcz15_3 : w14.cell? ⟨gb110,3,none⟩ = some (.string a0_3):=(zc_ BK110.out 3).trans rfl;have hfz15_0:=zf_ BK110.out 0;have hfz15_1:=zf_ BK110.out 1;have hfz15_2:=zf_ BK110.out 2;have hfz15_3:=zf_ BK110.out 3))
  go_ret
  exact ⟨zE_,zG_⟩
 rw [if_neg c11] at H
 have c11b0:=decide_eq_false c11
 clear c11
 obtain rfl:=zi_ H
 go_enter Tryz.func132,Tryz.ntmps132
 go_wp2_with (first|((with_reducible refine gate_dst (N:=2) rfl ?_);refine box_event ?hg (N:=2) ?hd (cs:=#[.int .i64 a0_0,.string a0_1,.slice A0_2 l0_2.length c0_2,.string a0_3]) (t:=170) ?hr ?_;(case hd => rfl);(case hg => rfl);(case hr => first|(go_simp;done)|(go_simp;rfl));intro gb110 hg w16 hbox hb;have n0_:=zm_ (below_step zB_ hb);have n1_:=zm_ (hbox);have n2_:=zm_ ((by rw [hg];exact (below_size zB_) : w.heap.size ≤ gb110));have n3_:=zm_ ((by rw [hg];exact (below_size zB_) : w.heap.size ≤ gb110));clear HB;have HB:=n0_;have BK110:=n1_;have GW110:=n2_;have GE110:=n3_;clear n0_ n1_ n2_ n3_;clear hb hbox hg;have hcz17_0 : w16.cell? ⟨gb110,0,none⟩ = some (.int .i64 a0_0):=(zc_ BK110.out 0).trans rfl;have hcz17_1 : w16.cell? ⟨gb110,1,none⟩ = some (.string a0_1):=(zc_ BK110.out 1).trans rfl;have hcz17_2 : w16.cell? ⟨gb110,2,none⟩ = some (.slice A0_2 l0_2.length c0_2):=(zc_ BK110.out 2).trans rfl;have hcz17_3 : w16.cell? ⟨gb110,3,none⟩ = some (.string a0_3):=(zc_ BK110.out 3).trans rfl;have hfz17_0:=zf_ BK110.out 0;have hfz17_1:=zf_ BK110.out 1;have hfz17_2:=zf_ BK110.out 2;have hfz17_3:=zf_ BK110.out 3)|((with_reducible refine gate_callee (f:=141) rfl ?_);refine goesL_ (some 15) rfl rfl Tryz.func141 (by kernel_rfl) rfl #[.slice A0_2 l0_2.length c0_2,.int .i64 (wrap64 (a1 - (a0_1.size : Int)))] rfl zq_ ?_;(with_reducible refine (laws_szExprS.calls k _ _ l0_2 (wrap64 (a1 - (a0_1.size : Int))) t111 _ ?side1 ?side2 A6.out).mono ?_);(case side1 => exact zP_);(case side2 => exact HC0_2.out);rintro e w18 ⟨rfl,hb⟩;refine ⟨_,rfl,?_⟩;have n0_:=zm_ (blk_below (g:=gb110) (o:=.cells #[.int .i64 a0_0,.string a0_1,.slice A0_2 l0_2.length c0_2,.string a0_3] 170 (0,0)) zK_ hb);have n1_:=zm_ (below_step zG_ hb);clear BK110;clear HB;have BK110:=n0_;have HB:=n1_;clear n0_ n1_;(try clear hb);have hcz19_0 : w18.cell? ⟨gb110,0,none⟩ = some (.int .i64 a0_0):=(zc_ BK110.out 0).trans rfl;have hcz19_1 : w18.cell? ⟨gb110,1,none⟩ = some (.string a0_1):=(zc_ BK110.out 1).trans rfl;have hcz19_2 : w18.cell? ⟨gb110,2,none⟩ = some (.slice A0_2 l0_2.length c0_2):=(zc_ BK110.out 2).trans rfl;have hcz19_3 : w18.cell? ⟨gb110,3,none⟩ = some (.string a0_3):=(zc_ BK110.out 3).trans rfl;have hfz19_0:=zf_ BK110.out 0;have hfz19_1:=zf_ BK110.out 1;have hfz19_2:=zf_ BK110.out 2;have hfz19_3:=zf_ BK110.out 3))
 go_ret
 exact ⟨zE_,zG_⟩

def laws_szSymS.l0 : Nat → List (S170) → Int → Int → Option (Int)
 |0,_,_,_ => none
 |k + 1,x0,x1,x5 => if x5 < (x0.length : Int) then (if 0 ≤ x5 then ((laws_szSym.f k ((rd_T170 x0 x5).f0) ((rd_T170 x0 x5).f1) ((rd_T170 x0 x5).f2) ((rd_T170 x0 x5).f3) x1).bind fun t113 => (if t113 < 0 then (some (-1)) else (laws_szSymS.l0 k x0 t113 (wrap64 (x5 + 1))))) else (none)) else (some x1)
def laws_szSymS.f (k : Nat) (l0 : List (S170)) (a1 : Int) : Option (Int):=if (wrap64 (a1 - (l0.length : Int))) < 0 then (some (-1)) else (laws_szSymS.l0 k l0 (wrap64 (a1 - (l0.length : Int))) 0)
theorem laws_szSymS.calls (k : Nat) (A0 : Option Addr) (c0 : Nat) (l0 : List (S170)) (a1 : Int) (r : Int) (w : World) (hr0 : Kd.C k170 w A0 l0.length l0) (hc0 : l0.length ≤ c0) (h : laws_szSymS.f k l0 a1 = some r) :
  Calls Tryz.prog 117 #[.slice A0 l0.length c0,.int .i64 a1] w fun e w' => e = .returned (.int .i64 r) ∧ Below w.heap.size w w':=by
 have hu170:=Tryz.underlying170
 have HR0:=zm_ hr0
 have HC0:=zm_ hc0
 clear hr0 hc0
 have HB:=zm_ (Below.refl w.heap.size w)
 have H : (if (wrap64 (a1 - (l0.length : Int))) < 0 then (some (-1)) else (laws_szSymS.l0 k l0 (wrap64 (a1 - (l0.length : Int))) 0)) = some r:=h
 clear h
 by_cases c3 : (wrap64 (a1 - (l0.length : Int))) < 0
 ·rw [if_pos c3] at H
  have c3b0:=decide_eq_true c3
  clear c3
  obtain rfl:=zi_ H
  go_enter Tryz.func117,Tryz.ntmps117
  go_wp2
  go_ret
  exact ⟨zE_,zG_⟩
 rw [if_neg c3] at H
 have c3b0:=decide_eq_false c3
 clear c3
 have H':=zm_ H
 clear H
 go_enter Tryz.func117,Tryz.ntmps117
 go_wp2
 go_loopg [1,5] k (fun kq v1 v5 w' => ∃ (x1_1 : Int) (x5_1 : Int),v1 = .int .i64 x1_1 ∧ v5 = .int .i64 x5_1 ∧ Aside0 (laws_szSymS.l0 kq l0 x1_1 x5_1 = some r) ∧ Aside0 (kq ≤ k) ∧ Aside0 (Below w.heap.size w w'))
 case atStart => exact ⟨(wrap64 (a1 - (l0.length : Int))),(0),zV_,zV_,H',⟨Nat.le_refl _⟩,⟨zG_⟩⟩
 case round =>
  clear H'
  obtain ⟨x1_1,x5_1,rfl,rfl,HA,HK1,HB⟩:=hrel
  cases gk with
  |zero => exact absurd HA.out (by simp [laws_szSymS.l0])
  |succ k1 =>
   have H:=HA.out
   clear HA
   simp only [laws_szSymS.l0] at H
   by_cases c4 : x5_1 < (l0.length : Int)
   rotate_left
   ·rw [if_neg c4] at H
    have c4b0:=decide_eq_false c4
    clear c4
    obtain rfl:=zi_ H
    go_wp2
    go_ret
    exact ⟨zE_,zG_⟩


   rw [if_pos c4] at H
   have c4b0:=decide_eq_true c4
   clear c4
   by_cases c5 : 0 ≤ x5_1
   rotate_left
   ·rw [if_neg c5] at H
    cases H
   rw [if_pos c5] at H
   have c5b0:=decide_eq_true c5
   clear c5
   obtain ⟨t113,A6,H⟩:=zJ_ H
   try dsimp only at H
   by_cases c7 : t113 < 0
   ·rw [if_pos c7] at H
    have c7b0:=decide_eq_true c7
    clear c7
    obtain rfl:=zi_ H
    have p112 : 0 ≤ (x5_1 : Int):=zo_
    have q112 : x5_1 < (l0.length : Int):=zo_
    obtain ⟨ad112,A112_2,c112_2,e112,hx112_0,hx112_1,hx112_2,hx112_3,hl112_2,hi112_2⟩:=at_T170 HR0.out x5_1 p112 q112
    cases e112
    replace hx112_0:=(HB.out.cell (zb_ w _ hx112_0)).trans hx112_0
    replace hx112_1:=(HB.out.cell (zb_ w _ hx112_1)).trans hx112_1
    replace hx112_2:=(HB.out.cell (zb_ w _ hx112_2)).trans hx112_2
    replace hx112_3:=(HB.out.cell (zb_ w _ hx112_3)).trans hx112_3
    have HR112_2:=zm_ hi112_2
    have HC112_2:=zm_ hl112_2
    clear hi112_2 hl112_2
    replace p112:=eq_true p112
    replace q112:=eq_true q112
    go_wp2_with (first|((with_reducible refine gate_callee (f:=132) rfl ?_);refine goesL_ (some 23) rfl rfl Tryz.func132 (by kernel_rfl) rfl #[.agg #[.int .i64 ((rd_T170 l0 x5_1).f0),.string ((rd_T170 l0 x5_1).f1),.slice A112_2 ((rd_T170 l0 x5_1).f2).length c112_2,.string ((rd_T170 l0 x5_1).f3)],.int .i64 x1_1] rfl zq_ ?_;(with_reducible refine (laws_szSym.calls k1 ((rd_T170 l0 x5_1).f0) ((rd_T170 l0 x5_1).f1) _ _ ((rd_T170 l0 x5_1).f2) ((rd_T170 l0 x5_1).f3) x1_1 t113 _ ?side1 ?side2 A6.out).mono ?_);(case side1 => exact zP_);(case side2 => exact HC112_2.out);rintro e w8 ⟨rfl,hb⟩;refine ⟨_,rfl,?_⟩;replace HB:=zm_ (below_step zB_ hb);(try clear hb)))
    go_ret
    exact ⟨zE_,zG_⟩
   rw [if_neg c7] at H
   have c7b0:=decide_eq_false c7
   clear c7
   have H':=zm_ H
   clear H
   have p112 : 0 ≤ (x5_1 : Int):=zo_
   have q112 : x5_1 < (l0.length : Int):=zo_
   obtain ⟨ad112,A112_2,c112_2,e112,hx112_0,hx112_1,hx112_2,hx112_3,hl112_2,hi112_2⟩:=at_T170 HR0.out x5_1 p112 q112
   cases e112
   replace hx112_0:=(HB.out.cell (zb_ w _ hx112_0)).trans hx112_0
   replace hx112_1:=(HB.out.cell (zb_ w _ hx112_1)).trans hx112_1
   replace hx112_2:=(HB.out.cell (zb_ w _ hx112_2)).trans hx112_2
   replace hx112_3:=(HB.out.cell (zb_ w _ hx112_3)).trans hx112_3
   have HR112_2:=zm_ hi112_2
   have HC112_2:=zm_ hl112_2
   clear hi112_2 hl112_2
   replace p112:=eq_true p112
   replace q112:=eq_true q112
   go_wp2_with (first|((with_reducible refine gate_callee (f:=132) rfl ?_);refine goesL_ (some 23) rfl rfl Tryz.func132 (by kernel_rfl) rfl #[.agg #[.int .i64 ((rd_T170 l0 x5_1).f0),.string ((rd_T170 l0 x5_1).f1),.slice A112_2 ((rd_T170 l0 x5_1).f2).length c112_2,.string ((rd_T170 l0 x5_1).f3)],.int .i64 x1_1] rfl zq_ ?_;(with_reducible refine (laws_szSym.calls k1 ((rd_T170 l0 x5_1).f0) ((rd_T170 l0 x5_1).f1) _ _ ((rd_T170 l0 x5_1).f2) ((rd_T170 l0 x5_1).f3) x1_1 t113 _ ?side1 ?side2 A6.out).mono ?_);(case side1 => exact zP_);(case side2 => exact HC112_2.out);rintro e w9 ⟨rfl,hb⟩;refine ⟨_,rfl,?_⟩;replace HB:=zm_ (below_step zB_ hb);(try clear hb)))
   go_roundg k1
   case measure => have:=HK1.out;omega
   case rel => exact ⟨(t113),(wrap64 (x5_1 + 1)),zV_,zV_,H',⟨by have:=HK1.out;omega⟩,⟨zG_⟩⟩
def laws_szAlt.f (k : Nat) (l0_0 : List (S170)) (a1 : Int) : Option (Int):=(laws_szSymS.f k l0_0 a1).bind fun t115 => (if t115 < 0 then (some (-1)) else (some t115))
theorem laws_szAlt.calls (k : Nat) (A0_0 : Option Addr) (c0_0 : Nat) (l0_0 : List (S170)) (a1 : Int) (r : Int) (w : World) (hr0_0 : Kd.C k170 w A0_0 l0_0.length l0_0) (hc0_0 : l0_0.length ≤ c0_0) (h : laws_szAlt.f k l0_0 a1 = some r) :
  Calls Tryz.prog 91 #[.agg #[.slice A0_0 l0_0.length c0_0],.int .i64 a1] w fun e w' => e = .returned (.int .i64 r) ∧ Below w.heap.size w w':=by
 have hu131:=Tryz.underlying131
 have HR0_0:=zm_ hr0_0
 have HC0_0:=zm_ hc0_0
 clear hr0_0 hc0_0
 have HB:=zm_ (Below.refl w.heap.size w)
 have H : ((laws_szSymS.f k l0_0 a1).bind fun t115 => (if t115 < 0 then (some (-1)) else (some t115))) = some r:=h
 clear h
 obtain ⟨t115,A3,H⟩:=zJ_ H
 try dsimp only at H
 by_cases c4 : t115 < 0
 ·rw [if_pos c4] at H
  have c4b0:=decide_eq_true c4
  clear c4
  obtain rfl:=zi_ H
  go_enter Tryz.func91,Tryz.ntmps91
  go_wp2_with (first|((with_reducible refine gate_dst (N:=2) rfl ?_);refine box_event ?hg (N:=2) ?hd (cs:=#[.slice A0_0 l0_0.length c0_0]) (t:=131) ?hr ?_;(case hd => rfl);(case hg => rfl);(case hr => first|(go_simp;done)|(go_simp;rfl));intro gb114 hg w5 hbox hb;have n0_:=zm_ (below_step zB_ hb);have n1_:=zm_ (hbox);have n2_:=zm_ ((by rw [hg];exact (below_size zB_) : w.heap.size ≤ gb114));have n3_:=zm_ ((by rw [hg];exact (below_size zB_) : w.heap.size ≤ gb114));clear HB;have HB:=n0_;have BK114:=n1_;have GW114:=n2_;have GE114:=n3_;clear n0_ n1_ n2_ n3_;clear hb hbox hg;have hcz6_0 : w5.cell? ⟨gb114,0,none⟩ = some (.slice A0_0 l0_0.length c0_0):=(zc_ BK114.out 0).trans rfl;have hfz6_0:=zf_ BK114.out 0)|((with_reducible refine gate_callee (f:=117) rfl ?_);refine goesL_ (some 8) rfl rfl Tryz.func117 (by kernel_rfl) rfl #[.slice A0_0 l0_0.length c0_0,.int .i64 a1] rfl zq_ ?_;(with_reducible refine (laws_szSymS.calls k _ _ l0_0 a1 t115 _ ?side1 ?side2 A3.out).mono ?_);(case side1 => exact zP_);(case side2 => exact HC0_0.out);rintro e w7 ⟨rfl,hb⟩;refine ⟨_,rfl,?_⟩;have n0_:=zm_ (blk_below (g:=gb114) (o:=.cells #[.slice A0_0 l0_0.length c0_0] 131 (0,0)) zK_ hb);have n1_:=zm_ (below_step zG_ hb);clear BK114;clear HB;have BK114:=n0_;have HB:=n1_;clear n0_ n1_;(try clear hb)))
  go_ret
  exact ⟨zE_,zG_⟩
 rw [if_neg c4] at H
 have c4b0:=decide_eq_false c4
 clear c4
 obtain rfl:=zi_ H
 go_enter Tryz.func91,Tryz.ntmps91
 go_wp2_with (first|((with_reducible refine gate_dst (N:=2) rfl ?_);refine box_event ?hg (N:=2) ?hd (cs:=#[.slice A0_0 l0_0.length c0_0]) (t:=131) ?hr ?_;(case hd => rfl);(case hg => rfl);(case hr => first|(go_simp;done)|(go_simp;rfl));intro gb114 hg w8 hbox hb;have n0_:=zm_ (below_step zB_ hb);have n1_:=zm_ (hbox);have n2_:=zm_ ((by rw [hg];exact (below_size zB_) : w.heap.size ≤ gb114));have n3_:=zm_ ((by rw [hg];exact (below_size zB_) : w.heap.size ≤ gb114));clear HB;have HB:=n0_;have BK114:=n1_;have GW114:=n2_;have GE114:=n3_;clear n0_ n1_ n2_ n3_;clear hb hbox hg;have hcz9_0 : w8.cell? ⟨gb114,0,none⟩ = some (.slice A0_0 l0_0.length c0_0):=(zc_ BK114.out 0).trans rfl;have hfz9_0:=zf_ BK114.out 0)|((with_reducible refine gate_callee (f:=117) rfl ?_);refine goesL_ (some 8) rfl rfl Tryz.func117 (by kernel_rfl) rfl #[.slice A0_0 l0_0.length c0_0,.int .i64 a1] rfl zq_ ?_;(with_reducible refine (laws_szSymS.calls k _ _ l0_0 a1 t115 _ ?side1 ?side2 A3.out).mono ?_);(case side1 => exact zP_);(case side2 => exact HC0_0.out);rintro e w10 ⟨rfl,hb⟩;refine ⟨_,rfl,?_⟩;have n0_:=zm_ (blk_below (g:=gb114) (o:=.cells #[.slice A0_0 l0_0.length c0_0] 131 (0,0)) zK_ hb);have n1_:=zm_ (below_step zG_ hb);clear BK114;clear HB;have BK114:=n0_;have HB:=n1_;clear n0_ n1_;(try clear hb)))
 go_ret
 exact ⟨zE_,zG_⟩

end Go.Proofs.YtkbgmojomgelbaaGreat.MFnExactGrammarOk
