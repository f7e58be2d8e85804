import Derived.Test.YtkbgmojomgelbaaGreatMFnExactGrammarOkx0
import Derived.Test.YtkbgmojomgelbaaGreatMFnExactGrammarOkx1
namespace Go.Proofs.YtkbgmojomgelbaaGreat.MFnExactGrammarOk
open Go.RowKit Go.Proofs.YtkbgmojomgelbaaGreatW.PrintWords Go.Proofs.YtkbgmojomgelbaaGreatW.PrintLast Go.Proofs.YtkbgmojomgelbaaGreatW.PrintMore
attribute [local go_sem] max2_int min2_int max_two min_two max_three min_three max_four min_four
set_option linter.unusedVariables false
set_option linter.unusedSimpArgs false
set_option maxHeartbeats 8000000
set_option maxRecDepth 100000

def laws_szAltS.l0 : Nat → List (S131) → Int → Int → Option (Int)
 |0,_,_,_ => none
 |k + 1,x0,x1,x5 => if x5 < (x0.length : Int) then (if 0 ≤ x5 then ((laws_szAlt.f k ((rd_T131 x0 x5).f0) x1).bind fun t117 => (if t117 < 0 then (some (-1)) else (laws_szAltS.l0 k x0 t117 (wrap64 (x5 + 1))))) else (none)) else (some x1)
def laws_szAltS.f (k : Nat) (l0 : List (S131)) (a1 : Int) : Option (Int):=if (wrap64 (a1 - (l0.length : Int))) < 0 then (some (-1)) else (laws_szAltS.l0 k l0 (wrap64 (a1 - (l0.length : Int))) 0)
theorem laws_szAltS.calls (k : Nat) (A0 : Option Addr) (c0 : Nat) (l0 : List (S131)) (a1 : Int) (r : Int) (w : World) (hr0 : Kd.C k131 w A0 l0.length l0) (hc0 : l0.length ≤ c0) (h : laws_szAltS.f k l0 a1 = some r) :
  Calls Tryz.prog 63 #[.slice A0 l0.length c0,.int .i64 a1] w fun e w' => e = .returned (.int .i64 r) ∧ Below w.heap.size w w':=by
 have hu131:=Tryz.underlying131
 have HR0:=zm_ hr0
 have HC0:=zm_ hc0
 clear hr0 hc0
 have HB:=zm_ (Below.refl w.heap.size w)
 have H : (if (wrap64 (a1 - (l0.length : Int))) < 0 then (some (-1)) else (laws_szAltS.l0 k l0 (wrap64 (a1 - (l0.length : Int))) 0)) = some r:=h
 clear h
 by_cases c3 : (wrap64 (a1 - (l0.length : Int))) < 0
 ·rw [if_pos c3] at H
  have c3b0:=decide_eq_true c3
  clear c3
  obtain rfl:=zi_ H
  go_enter Tryz.func63,Tryz.ntmps63
  go_wp2
  go_ret
  exact ⟨zE_,zG_⟩
 rw [if_neg c3] at H
 have c3b0:=decide_eq_false c3
 clear c3
 have H':=zm_ H
 clear H
 go_enter Tryz.func63,Tryz.ntmps63
 go_wp2
 go_loopg [1,5] k (fun kq v1 v5 w' => ∃ (x1_1 : Int) (x5_1 : Int),v1 = .int .i64 x1_1 ∧ v5 = .int .i64 x5_1 ∧ Aside0 (laws_szAltS.l0 kq l0 x1_1 x5_1 = some r) ∧ Aside0 (kq ≤ k) ∧ Aside0 (Below w.heap.size w w'))
 case atStart => exact ⟨(wrap64 (a1 - (l0.length : Int))),(0),zV_,zV_,H',⟨Nat.le_refl _⟩,⟨zG_⟩⟩
 case round =>
  clear H'
  obtain ⟨x1_1,x5_1,rfl,rfl,HA,HK1,HB⟩:=hrel
  cases gk with
  |zero => exact absurd HA.out (by simp [laws_szAltS.l0])
  |succ k1 =>
   have H:=HA.out
   clear HA
   simp only [laws_szAltS.l0] at H
   by_cases c4 : x5_1 < (l0.length : Int)
   rotate_left
   ·rw [if_neg c4] at H
    have c4b0:=decide_eq_false c4
    clear c4
    obtain rfl:=zi_ H
    go_wp2
    go_ret
    exact ⟨zE_,zG_⟩


   rw [if_pos c4] at H
   have c4b0:=decide_eq_true c4
   clear c4
   by_cases c5 : 0 ≤ x5_1
   rotate_left
   ·rw [if_neg c5] at H
    cases H
   rw [if_pos c5] at H
   have c5b0:=decide_eq_true c5
   clear c5
   obtain ⟨t117,A6,H⟩:=zJ_ H
   try dsimp only at H
   by_cases c7 : t117 < 0
   ·rw [if_pos c7] at H
    have c7b0:=decide_eq_true c7
    clear c7
    obtain rfl:=zi_ H
    have p116 : 0 ≤ (x5_1 : Int):=zo_
    have q116 : x5_1 < (l0.length : Int):=zo_
    obtain ⟨ad116,A116_0,c116_0,e116,hx116_0,hl116_0,hi116_0⟩:=at_T131 HR0.out x5_1 p116 q116
    cases e116
    replace hx116_0:=(HB.out.cell (zb_ w _ hx116_0)).trans hx116_0
    have HR116_0:=zm_ hi116_0
    have HC116_0:=zm_ hl116_0
    clear hi116_0 hl116_0
    replace p116:=eq_true p116
    replace q116:=eq_true q116
    go_wp2_with (first|((with_reducible refine gate_callee (f:=91) rfl ?_);refine goesL_ (some 23) rfl rfl Tryz.func91 (by kernel_rfl) rfl #[.agg #[.slice A116_0 ((rd_T131 l0 x5_1).f0).length c116_0],.int .i64 x1_1] rfl zq_ ?_;(with_reducible refine (laws_szAlt.calls k1 _ _ ((rd_T131 l0 x5_1).f0) x1_1 t117 _ ?side1 ?side2 A6.out).mono ?_);(case side1 => exact zP_);(case side2 => exact HC116_0.out);rintro e w8 ⟨rfl,hb⟩;refine ⟨_,rfl,?_⟩;replace HB:=zm_ (below_step zB_ hb);(try clear hb)))
    go_ret
    exact ⟨zE_,zG_⟩
   rw [if_neg c7] at H
   have c7b0:=decide_eq_false c7
   clear c7
   have H':=zm_ H
   clear H
   have p116 : 0 ≤ (x5_1 : Int):=zo_
   have q116 : x5_1 < (l0.length : Int):=zo_
   obtain ⟨ad116,A116_0,c116_0,e116,hx116_0,hl116_0,hi116_0⟩:=at_T131 HR0.out x5_1 p116 q116
   cases e116
   replace hx116_0:=(HB.out.cell (zb_ w _ hx116_0)).trans hx116_0
   have HR116_0:=zm_ hi116_0
   have HC116_0:=zm_ hl116_0
   clear hi116_0 hl116_0
   replace p116:=eq_true p116
   replace q116:=eq_true q116
   go_wp2_with (first|((with_reducible refine gate_callee (f:=91) rfl ?_);refine goesL_ (some 23) rfl rfl Tryz.func91 (by kernel_rfl) rfl #[.agg #[.slice A116_0 ((rd_T131 l0 x5_1).f0).length c116_0],.int .i64 x1_1] rfl zq_ ?_;(with_reducible refine (laws_szAlt.calls k1 _ _ ((rd_T131 l0 x5_1).f0) x1_1 t117 _ ?side1 ?side2 A6.out).mono ?_);(case side1 => exact zP_);(case side2 => exact HC116_0.out);rintro e w9 ⟨rfl,hb⟩;refine ⟨_,rfl,?_⟩;replace HB:=zm_ (below_step zB_ hb);(try clear hb)))
   go_roundg k1
   case measure => have:=HK1.out;omega
   case rel => exact ⟨(t117),(wrap64 (x5_1 + 1)),zV_,zV_,H',⟨by have:=HK1.out;omega⟩,⟨zG_⟩⟩
def laws_szRule.f (k : Nat) (a0_0 : ByteArray) (l0_1 : List ByteArray) (l0_2 : List (S131)) (a1 : Int) : Option (Int):=if (wrap64 (a1 - (a0_0.size : Int))) < 0 then (some (-1)) else ((laws_szStringS.f k l0_1 (wrap64 (a1 - (a0_0.size : Int)))).bind fun t119 => (if t119 < 0 then (some (-1)) else ((laws_szAltS.f k l0_2 t119).bind fun t120 => (if t120 < 0 then (some (-1)) else (some t120)))))
theorem laws_szRule.calls (k : Nat) (a0_0 : ByteArray) (A0_1 : Option Addr) (c0_1 : Nat) (l0_1 : List ByteArray) (A0_2 : Option Addr) (c0_2 : Nat) (l0_2 : List (S131)) (a1 : Int) (r : Int) (w : World) (hr0_1 : Kd.C Kd.string w A0_1 l0_1.length l0_1) (hc0_1 : l0_1.length ≤ c0_1) (hr0_2 : Kd.C k131 w A0_2 l0_2.length l0_2) (hc0_2 : l0_2.length ≤ c0_2) (h : laws_szRule.f k a0_0 l0_1 l0_2 a1 = some r) :
  Calls Tryz.prog 33 #[.agg #[.string a0_0,.slice A0_1 l0_1.length c0_1,.slice A0_2 l0_2.length c0_2],.int .i64 a1] w fun e w' => e = .returned (.int .i64 r) ∧ Below w.heap.size w w':=by
 have hu73:=Tryz.underlying73
 have HR0_1:=zm_ hr0_1
 have HC0_1:=zm_ hc0_1
 clear hr0_1 hc0_1
 have HR0_2:=zm_ hr0_2
 have HC0_2:=zm_ hc0_2
 clear hr0_2 hc0_2
 have HB:=zm_ (Below.refl w.heap.size w)
 have H : (if (wrap64 (a1 - (a0_0.size : Int))) < 0 then (some (-1)) else ((laws_szStringS.f k l0_1 (wrap64 (a1 - (a0_0.size : Int)))).bind fun t119 => (if t119 < 0 then (some (-1)) else ((laws_szAltS.f k l0_2 t119).bind fun t120 => (if t120 < 0 then (some (-1)) else (some t120)))))) = some r:=h
 clear h
 by_cases c3 : (wrap64 (a1 - (a0_0.size : Int))) < 0
 ·rw [if_pos c3] at H
  have c3b0:=decide_eq_true c3
  clear c3
  obtain rfl:=zi_ H
  go_enter Tryz.func33,Tryz.ntmps33
  go_wp2_with (first|((with_reducible refine gate_dst (N:=2) rfl ?_);refine box_event ?hg (N:=2) ?hd (cs:=#[.string a0_0,.slice A0_1 l0_1.length c0_1,.slice A0_2 l0_2.length c0_2]) (t:=73) ?hr ?_;(case hd => rfl);(case hg => rfl);(case hr => first|(go_simp;done)|(go_simp;rfl));intro gb118 hg w4 hbox hb;have n0_:=zm_ (below_step zB_ hb);have n1_:=zm_ (hbox);have n2_:=zm_ ((by rw [hg];exact (below_size zB_) : w.heap.size ≤ gb118));have n3_:=zm_ ((by rw [hg];exact (below_size zB_) : w.heap.size ≤ gb118));clear HB;have HB:=n0_;have BK118:=n1_;have GW118:=n2_;have GE118:=n3_;clear n0_ n1_ n2_ n3_;clear hb hbox hg;have hcz5_0 : w4.cell? ⟨gb118,0,none⟩ = some (.string a0_0):=(zc_ BK118.out 0).trans rfl;have hcz5_1 : w4.cell? ⟨gb118,1,none⟩ = some (.slice A0_1 l0_1.length c0_1):=(zc_ BK118.out 1).trans rfl;have hcz5_2 : w4.cell? ⟨gb118,2,none⟩ = some (.slice A0_2 l0_2.length c0_2):=(zc_ BK118.out 2).trans rfl;have hfz5_0:=zf_ BK118.out 0;have hfz5_1:=zf_ BK118.out 1;have hfz5_2:=zf_ BK118.out 2))
  go_ret
  exact ⟨zE_,zG_⟩
 rw [if_neg c3] at H
 have c3b0:=decide_eq_false c3
 clear c3
 obtain ⟨t119,A6,H⟩:=zJ_ H
 try dsimp only at H
 by_cases c7 : t119 < 0
 ·rw [if_pos c7] at H
  have c7b0:=decide_eq_true c7
  clear c7
  obtain rfl:=zi_ H
  go_enter Tryz.func33,Tryz.ntmps33
  go_wp2_with (first|((with_reducible refine gate_dst (N:=2) rfl ?_);refine box_event ?hg (N:=2) ?hd (cs:=#[.string a0_0,.slice A0_1 l0_1.length c0_1,.slice A0_2 l0_2.length c0_2]) (t:=73) ?hr ?_;(case hd => rfl);(case hg => rfl);(case hr => first|(go_simp;done)|(go_simp;rfl));intro gb118 hg w8 hbox hb;have n0_:=zm_ (below_step zB_ hb);have n1_:=zm_ (hbox);have n2_:=zm_ ((by rw [hg];exact (below_size zB_) : w.heap.size ≤ gb118));have n3_:=zm_ ((by rw [hg];exact (below_size zB_) : w.heap.size ≤ gb118));clear HB;have HB:=n0_;have BK118:=n1_;have GW118:=n2_;have GE118:=n3_;clear n0_ n1_ n2_ n3_;clear hb hbox hg;have hcz9_0 : w8.cell? ⟨gb118,0,none⟩ = some (.string a0_0):=(zc_ BK118.out 0).trans rfl;have hcz9_1 : w8.cell? ⟨gb118,1,none⟩ = some (.slice A0_1 l0_1.length c0_1):=(zc_ BK118.out 1).trans rfl;have hcz9_2 : w8.cell? ⟨gb118,2,none⟩ = some (.slice A0_2 l0_2.length c0_2):=(zc_ BK118.out 2).trans rfl;have hfz9_0:=zf_ BK118.out 0;have hfz9_1:=zf_ BK118.out 1;have hfz9_2:=zf_ BK118.out 2)|((with_reducible refine gate_callee (f:=62) rfl ?_);refine goesL_ (some 15) rfl rfl Tryz.func62 (by kernel_rfl) rfl #[.slice A0_1 l0_1.length c0_1,.int .i64 (wrap64 (a1 - (a0_0.size : Int)))] rfl zq_ ?_;(with_reducible refine (laws_szStringS.calls k _ _ l0_1 (wrap64 (a1 - (a0_0.size : Int))) t119 _ ?side1 ?side2 A6.out).mono ?_);(case side1 => exact zP_);(case side2 => exact HC0_1.out);rintro e w' ⟨rfl,⟨nd,rfl⟩⟩;refine ⟨_,rfl,?_⟩))
  go_ret
  exact ⟨zE_,zG_⟩
 rw [if_neg c7] at H
 have c7b0:=decide_eq_false c7
 clear c7
 obtain ⟨t120,A10,H⟩:=zJ_ H
 try dsimp only at H
 by_cases c11 : t120 < 0
 ·rw [if_pos c11] at H
  have c11b0:=decide_eq_true c11
  clear c11
  obtain rfl:=zi_ H
  go_enter Tryz.func33,Tryz.ntmps33
  go_wp2_with (first|((with_reducible refine gate_dst (N:=2) rfl ?_);refine box_event ?hg (N:=2) ?hd (cs:=#[.string a0_0,.slice A0_1 l0_1.length c0_1,.slice A0_2 l0_2.length c0_2]) (t:=73) ?hr ?_;(case hd => rfl);(case hg => rfl);(case hr => first|(go_simp;done)|(go_simp;rfl));intro gb118 hg w12 hbox hb;have n0_:=zm_ (below_step zB_ hb);have n1_:=zm_ (hbox);have n2_:=zm_ ((by rw [hg];exact (below_size zB_) : w.heap.size ≤ gb118));have n3_:=zm_ ((by rw [hg];exact (below_size zB_) : w.heap.size ≤ gb118));clear HB;have HB:=n0_;have BK118:=n1_;have GW118:=n2_;have GE118:=n3_;clear n0_ n1_ n2_ n3_;clear hb hbox hg;have hcz13_0 : w12.cell? ⟨gb118,0,none⟩ = some (.string a0_0):=(zc_ BK118.out 0).trans rfl;have hcz13_1 : w12.cell? ⟨gb118,1,none⟩ = some (.slice A0_1 l0_1.length c0_1):=(zc_ BK118.out 1).trans rfl;have hcz13_2 : w12.cell? ⟨gb118,2,none⟩ = some (.slice A0_2 l0_2.length c0_2):=(zc_ BK118.out 2).trans rfl;have hfz13_0:=zf_ BK118.out 0;have hfz13_1:=zf_ BK118.out 1;have hfz13_2:=zf_ BK118.out 2)|((with_reducible refine gate_callee (f:=62) rfl ?_);refine goesL_ (some 15) rfl rfl Tryz.func62 (by kernel_rfl) rfl #[.slice A0_1 l0_1.length c0_1,.int .i64 (wrap64 (a1 - (a0_0.size : Int)))] rfl zq_ ?_;(with_reducible refine (laws_szStringS.calls k _ _ l0_1 (wrap64 (a1 - (a0_0.size : Int))) t119 _ ?side1 ?side2 A6.out).mono ?_);(case side1 => exact zP_);(case side2 => exact HC0_1.out);rintro e w' ⟨rfl,⟨nd,rfl⟩⟩;refine ⟨_,rfl,?_⟩)|((with_reducible refine gate_callee (f:=63) rfl ?_);refine goesL_ (some 21) rfl rfl Tryz.func63 (by kernel_rfl) rfl #[.slice A0_2 l0_2.length c0_2,.int .i64 t119] rfl zq_ ?_;(with_reducible refine (laws_szAltS.calls k _ _ l0_2 t119 t120 _ ?side1 ?side2 A10.out).mono ?_);(case side1 => repeat (first|exact (Kd.C_below HR0_2.out zG_)|(with_reducible refine Kd.C_alloc ?_ _)|(with_reducible refine Kd.C_drewN ?_ _)|(with_reducible refine Kd.C_drew ?_)));(case side2 => exact HC0_2.out);rintro e w14 ⟨rfl,hb⟩;refine ⟨_,rfl,?_⟩;have n0_:=zm_ (blk_below (g:=gb118) (o:=.cells #[.string a0_0,.slice A0_1 l0_1.length c0_1,.slice A0_2 l0_2.length c0_2] 73 (0,0)) zK_ hb);have n1_:=zm_ (below_step zG_ hb);clear BK118;clear HB;have BK118:=n0_;have HB:=n1_;clear n0_ n1_;(try clear hb)))
  go_ret
  exact ⟨zE_,zG_⟩
 rw [if_neg c11] at H
 have c11b0:=decide_eq_false c11
 clear c11
 obtain rfl:=zi_ H
 go_enter Tryz.func33,Tryz.ntmps33
 go_wp2_with (first|((with_reducible refine gate_dst (N:=2) rfl ?_);refine box_event ?hg (N:=2) ?hd (cs:=#[.string a0_0,.slice A0_1 l0_1.length c0_1,.slice A0_2 l0_2.length c0_2]) (t:=73) ?hr ?_;(case hd => rfl);(case hg => rfl);(case hr => first|(go_simp;done)|(go_simp;rfl));intro gb118 hg w15 hbox hb;have n0_:=zm_ (below_step zB_ hb);have n1_:=zm_ (hbox);have n2_:=zm_ ((by rw [hg];exact (below_size zB_) : w.heap.size ≤ gb118));have n3_:=zm_ ((by rw [hg];exact (below_size zB_) : w.heap.size ≤ gb118));clear HB;have HB:=n0_;have BK118:=n1_;have GW118:=n2_;have GE118:=n3_;clear n0_ n1_ n2_ n3_;clear hb hbox hg;have hcz16_0 : w15.cell? ⟨gb118,0,none⟩ = some (.string a0_0):=(zc_ BK118.out 0).trans rfl;have hcz16_1 : w15.cell? ⟨gb118,1,none⟩ = some (.slice A0_1 l0_1.length c0_1):=(zc_ BK118.out 1).trans rfl;have hcz16_2 : w15.cell? ⟨gb118,2,none⟩ = some (.slice A0_2 l0_2.length c0_2):=(zc_ BK118.out 2).trans rfl;have hfz16_0:=zf_ BK118.out 0;have hfz16_1:=zf_ BK118.out 1;have hfz16_2:=zf_ BK118.out 2)|((with_reducible refine gate_callee (f:=62) rfl ?_);refine goesL_ (some 15) rfl rfl Tryz.func62 (by kernel_rfl) rfl #[.slice A0_1 l0_1.length c0_1,.int .i64 (wrap64 (a1 - (a0_0.size : Int)))] rfl zq_ ?_;(with_reducible refine (laws_szStringS.calls k _ _ l0_1 (wrap64 (a1 - (a0_0.size : Int))) t119 _ ?side1 ?side2 A6.out).mono ?_);(case side1 => exact zP_);(case side2 => exact HC0_1.out);rintro e w' ⟨rfl,⟨nd,rfl⟩⟩;refine ⟨_,rfl,?_⟩)|((with_reducible refine gate_callee (f:=63) rfl ?_);refine goesL_ (some 21) rfl rfl Tryz.func63 (by kernel_rfl) rfl #[.slice A0_2 l0_2.length c0_2,.int .i64 t119] rfl zq_ ?_;(with_reducible refine (laws_szAltS.calls k _ _ l0_2 t119 t120 _ ?side1 ?side2 A10.out).mono ?_);(case side1 => repeat (first|exact (Kd.C_below HR0_2.out zG_)|(with_reducible refine Kd.C_alloc ?_ _)|(with_reducible refine Kd.C_drewN ?_ _)|(with_reducible refine Kd.C_drew ?_)));(case side2 => exact HC0_2.out);rintro e w17 ⟨rfl,hb⟩;refine ⟨_,rfl,?_⟩;have n0_:=zm_ (blk_below (g:=gb118) (o:=.cells #[.string a0_0,.slice A0_1 l0_1.length c0_1,.slice A0_2 l0_2.length c0_2] 73 (0,0)) zK_ hb);have n1_:=zm_ (below_step zG_ hb);clear BK118;clear HB;have BK118:=n0_;have HB:=n1_;clear n0_ n1_;(try clear hb)))
 go_ret
 exact ⟨zE_,zG_⟩

def laws_szRuleS.l0 : Nat → List (S73) → Int → Int → Option (Int)
 |0,_,_,_ => none
 |k + 1,x0,x1,x5 => if x5 < (x0.length : Int) then (if 0 ≤ x5 then ((laws_szRule.f k ((rd_T73 x0 x5).f0) ((rd_T73 x0 x5).f1) ((rd_T73 x0 x5).f2) x1).bind fun t122 => (if t122 < 0 then (some (-1)) else (laws_szRuleS.l0 k x0 t122 (wrap64 (x5 + 1))))) else (none)) else (some x1)
def laws_szRuleS.f (k : Nat) (l0 : List (S73)) (a1 : Int) : Option (Int):=if (wrap64 (a1 - (l0.length : Int))) < 0 then (some (-1)) else (laws_szRuleS.l0 k l0 (wrap64 (a1 - (l0.length : Int))) 0)
theorem laws_szRuleS.calls (k : Nat) (A0 : Option Addr) (c0 : Nat) (l0 : List (S73)) (a1 : Int) (r : Int) (w : World) (hr0 : Kd.C k73 w A0 l0.length l0) (hc0 : l0.length ≤ c0) (h : laws_szRuleS.f k l0 a1 = some r) :
  Calls Tryz.prog 15 #[.slice A0 l0.length c0,.int .i64 a1] w fun e w' => e = .returned (.int .i64 r) ∧ Below w.heap.size w w':=by
 have hu73:=Tryz.underlying73
 have HR0:=zm_ hr0
 have HC0:=zm_ hc0
 clear hr0 hc0
 have HB:=zm_ (Below.refl w.heap.size w)
 have H : (if (wrap64 (a1 - (l0.length : Int))) < 0 then (some (-1)) else (laws_szRuleS.l0 k l0 (wrap64 (a1 - (l0.length : Int))) 0)) = some r:=h
 clear h
 by_cases c3 : (wrap64 (a1 - (l0.length : Int))) < 0
 ·rw [if_pos c3] at H
  have c3b0:=decide_eq_true c3
  clear c3
  obtain rfl:=zi_ H
  go_enter Tryz.func15,Tryz.ntmps15
  go_wp2
  go_ret
  exact ⟨zE_,zG_⟩
 rw [if_neg c3] at H
 have c3b0:=decide_eq_false c3
 clear c3
 have H':=zm_ H
 clear H
 go_enter Tryz.func15,Tryz.ntmps15
 go_wp2
 go_loopg [1,5] k (fun kq v1 v5 w' => ∃ (x1_1 : Int) (x5_1 : Int),v1 = .int .i64 x1_1 ∧ v5 = .int .i64 x5_1 ∧ Aside0 (laws_szRuleS.l0 kq l0 x1_1 x5_1 = some r) ∧ Aside0 (kq ≤ k) ∧ Aside0 (Below w.heap.size w w'))
 case atStart => exact ⟨(wrap64 (a1 - (l0.length : Int))),(0),zV_,zV_,H',⟨Nat.le_refl _⟩,⟨zG_⟩⟩
 case round =>
  clear H'
  obtain ⟨x1_1,x5_1,rfl,rfl,HA,HK1,HB⟩:=hrel
  cases gk with
  |zero => exact absurd HA.out (by simp [laws_szRuleS.l0])
  |succ k1 =>
   have H:=HA.out
   clear HA
   simp only [laws_szRuleS.l0] at H
   by_cases c4 : x5_1 < (l0.length : Int)
   rotate_left
   ·rw [if_neg c4] at H
    have c4b0:=decide_eq_false c4
    clear c4
    obtain rfl:=zi_ H
    go_wp2
    go_ret
    exact ⟨zE_,zG_⟩


   rw [if_pos c4] at H
   have c4b0:=decide_eq_true c4
   clear c4
   by_cases c5 : 0 ≤ x5_1
   rotate_left
   ·rw [if_neg c5] at H
    cases H
   rw [if_pos c5] at H
   have c5b0:=decide_eq_true c5
   clear c5
   obtain ⟨t122,A6,H⟩:=zJ_ H
   try dsimp only at H
   by_cases c7 : t122 < 0
   ·rw [if_pos c7] at H
    have c7b0:=decide_eq_true c7
    clear c7
    obtain rfl:=zi_ H
    have p121 : 0 ≤ (x5_1 : Int):=zo_
    have q121 : x5_1 < (l0.length : Int):=zo_
    obtain ⟨ad121,A121_1,c121_1,A121_2,c121_2,e121,hx121_0,hx121_1,hx121_2,hl121_1,hi121_1,hl121_2,hi121_2⟩:=at_T73 HR0.out x5_1 p121 q121
    cases e121
    replace hx121_0:=(HB.out.cell (zb_ w _ hx121_0)).trans hx121_0
    replace hx121_1:=(HB.out.cell (zb_ w _ hx121_1)).trans hx121_1
    replace hx121_2:=(HB.out.cell (zb_ w _ hx121_2)).trans hx121_2
    have HR121_1:=zm_ hi121_1
    have HC121_1:=zm_ hl121_1
    clear hi121_1 hl121_1
    have HR121_2:=zm_ hi121_2
    have HC121_2:=zm_ hl121_2
    clear hi121_2 hl121_2
    replace p121:=eq_true p121
    replace q121:=eq_true q121
    go_wp2_with (first|((with_reducible refine gate_callee (f:=33) rfl ?_);refine goesL_ (some 23) rfl rfl Tryz.func33 (by kernel_rfl) rfl #[.agg #[.string ((rd_T73 l0 x5_1).f0),.slice A121_1 ((rd_T73 l0 x5_1).f1).length c121_1,.slice A121_2 ((rd_T73 l0 x5_1).f2).length c121_2],.int .i64 x1_1] rfl zq_ ?_;(with_reducible refine (laws_szRule.calls k1 ((rd_T73 l0 x5_1).f0) _ _ ((rd_T73 l0 x5_1).f1) _ _ ((rd_T73 l0 x5_1).f2) x1_1 t122 _ ?side1 ?side2 ?side3 ?side4 A6.out).mono ?_);(case side1 => exact zP_);(case side2 => exact HC121_1.out);(case side3 => exact zP_);(case side4 => exact HC121_2.out);rintro e w8 ⟨rfl,hb⟩;refine ⟨_,rfl,?_⟩;replace HB:=zm_ (below_step zB_ hb);(try clear hb)))
    go_ret
    exact ⟨zE_,zG_⟩
   rw [if_neg c7] at H
   have c7b0:=decide_eq_false c7
   clear c7
   have H':=zm_ H
   clear H
   have p121 : 0 ≤ (x5_1 : Int):=zo_
   have q121 : x5_1 < (l0.length : Int):=zo_
   obtain ⟨ad121,A121_1,c121_1,A121_2,c121_2,e121,hx121_0,hx121_1,hx121_2,hl121_1,hi121_1,hl121_2,hi121_2⟩:=at_T73 HR0.out x5_1 p121 q121
   cases e121
   replace hx121_0:=(HB.out.cell (zb_ w _ hx121_0)).trans hx121_0
   replace hx121_1:=(HB.out.cell (zb_ w _ hx121_1)).trans hx121_1
   replace hx121_2:=(HB.out.cell (zb_ w _ hx121_2)).trans hx121_2
   have HR121_1:=zm_ hi121_1
   have HC121_1:=zm_ hl121_1
   clear hi121_1 hl121_1
   have HR121_2:=zm_ hi121_2
   have HC121_2:=zm_ hl121_2
   clear hi121_2 hl121_2
   replace p121:=eq_true p121
   replace q121:=eq_true q121
   go_wp2_with (first|((with_reducible refine gate_callee (f:=33) rfl ?_);refine goesL_ (some 23) rfl rfl Tryz.func33 (by kernel_rfl) rfl #[.agg #[.string ((rd_T73 l0 x5_1).f0),.slice A121_1 ((rd_T73 l0 x5_1).f1).length c121_1,.slice A121_2 ((rd_T73 l0 x5_1).f2).length c121_2],.int .i64 x1_1] rfl zq_ ?_;(with_reducible refine (laws_szRule.calls k1 ((rd_T73 l0 x5_1).f0) _ _ ((rd_T73 l0 x5_1).f1) _ _ ((rd_T73 l0 x5_1).f2) x1_1 t122 _ ?side1 ?side2 ?side3 ?side4 A6.out).mono ?_);(case side1 => exact zP_);(case side2 => exact HC121_1.out);(case side3 => exact zP_);(case side4 => exact HC121_2.out);rintro e w9 ⟨rfl,hb⟩;refine ⟨_,rfl,?_⟩;replace HB:=zm_ (below_step zB_ hb);(try clear hb)))
   go_roundg k1
   case measure => have:=HK1.out;omega
   case rel => exact ⟨(t122),(wrap64 (x5_1 + 1)),zV_,zV_,H',⟨by have:=HK1.out;omega⟩,⟨zG_⟩⟩
def laws_szGrammar.f (k : Nat) (l0_0 : List (S73)) (a1 : Int) : Option (Int):=(laws_szRuleS.f k l0_0 a1).bind fun t124 => (if t124 < 0 then (some (-1)) else (some t124))
theorem laws_szGrammar.calls (k : Nat) (A0_0 : Option Addr) (c0_0 : Nat) (l0_0 : List (S73)) (a1 : Int) (r : Int) (w : World) (hr0_0 : Kd.C k73 w A0_0 l0_0.length l0_0) (hc0_0 : l0_0.length ≤ c0_0) (h : laws_szGrammar.f k l0_0 a1 = some r) :
  Calls Tryz.prog 5 #[.agg #[.slice A0_0 l0_0.length c0_0],.int .i64 a1] w fun e w' => e = .returned (.int .i64 r) ∧ Below w.heap.size w w':=by
 have hu24:=Tryz.underlying24
 have HR0_0:=zm_ hr0_0
 have HC0_0:=zm_ hc0_0
 clear hr0_0 hc0_0
 have HB:=zm_ (Below.refl w.heap.size w)
 have H : ((laws_szRuleS.f k l0_0 a1).bind fun t124 => (if t124 < 0 then (some (-1)) else (some t124))) = some r:=h
 clear h
 obtain ⟨t124,A3,H⟩:=zJ_ H
 try dsimp only at H
 by_cases c4 : t124 < 0
 ·rw [if_pos c4] at H
  have c4b0:=decide_eq_true c4
  clear c4
  obtain rfl:=zi_ H
  go_enter Tryz.func5,Tryz.ntmps5
  go_wp2_with (first|((with_reducible refine gate_dst (N:=2) rfl ?_);refine box_event ?hg (N:=2) ?hd (cs:=#[.slice A0_0 l0_0.length c0_0]) (t:=24) ?hr ?_;(case hd => rfl);(case hg => rfl);(case hr => first|(go_simp;done)|(go_simp;rfl));intro gb123 hg w5 hbox hb;have n0_:=zm_ (below_step zB_ hb);have n1_:=zm_ (hbox);have n2_:=zm_ ((by rw [hg];exact (below_size zB_) : w.heap.size ≤ gb123));have n3_:=zm_ ((by rw [hg];exact (below_size zB_) : w.heap.size ≤ gb123));clear HB;have HB:=n0_;have BK123:=n1_;have GW123:=n2_;have GE123:=n3_;clear n0_ n1_ n2_ n3_;clear hb hbox hg;have hcz6_0 : w5.cell? ⟨gb123,0,none⟩ = some (.slice A0_0 l0_0.length c0_0):=(zc_ BK123.out 0).trans rfl;have hfz6_0:=zf_ BK123.out 0)|((with_reducible refine gate_callee (f:=15) rfl ?_);refine goesL_ (some 8) rfl rfl Tryz.func15 (by kernel_rfl) rfl #[.slice A0_0 l0_0.length c0_0,.int .i64 a1] rfl zq_ ?_;(with_reducible refine (laws_szRuleS.calls k _ _ l0_0 a1 t124 _ ?side1 ?side2 A3.out).mono ?_);(case side1 => exact zP_);(case side2 => exact HC0_0.out);rintro e w7 ⟨rfl,hb⟩;refine ⟨_,rfl,?_⟩;have n0_:=zm_ (blk_below (g:=gb123) (o:=.cells #[.slice A0_0 l0_0.length c0_0] 24 (0,0)) zK_ hb);have n1_:=zm_ (below_step zG_ hb);clear BK123;clear HB;have BK123:=n0_;have HB:=n1_;clear n0_ n1_;(try clear hb)))
  go_ret
  exact ⟨zE_,zG_⟩
 rw [if_neg c4] at H
 have c4b0:=decide_eq_false c4
 clear c4
 obtain rfl:=zi_ H
 go_enter Tryz.func5,Tryz.ntmps5
 go_wp2_with (first|((with_reducible refine gate_dst (N:=2) rfl ?_);refine box_event ?hg (N:=2) ?hd (cs:=#[.slice A0_0 l0_0.length c0_0]) (t:=24) ?hr ?_;(case hd => rfl);(case hg => rfl);(case hr => first|(go_simp;done)|(go_simp;rfl));intro gb123 hg w8 hbox hb;have n0_:=zm_ (below_step zB_ hb);have n1_:=zm_ (hbox);have n2_:=zm_ ((by rw [hg];exact (below_size zB_) : w.heap.size ≤ gb123));have n3_:=zm_ ((by rw [hg];exact (below_size zB_) : w.heap.size ≤ gb123));clear HB;have HB:=n0_;have BK123:=n1_;have GW123:=n2_;have GE123:=n3_;clear n0_ n1_ n2_ n3_;clear hb hbox hg;have hcz9_0 : w8.cell? ⟨gb123,0,none⟩ = some (.slice A0_0 l0_0.length c0_0):=(zc_ BK123.out 0).trans rfl;have hfz9_0:=zf_ BK123.out 0)|((with_reducible refine gate_callee (f:=15) rfl ?_);refine goesL_ (some 8) rfl rfl Tryz.func15 (by kernel_rfl) rfl #[.slice A0_0 l0_0.length c0_0,.int .i64 a1] rfl zq_ ?_;(with_reducible refine (laws_szRuleS.calls k _ _ l0_0 a1 t124 _ ?side1 ?side2 A3.out).mono ?_);(case side1 => exact zP_);(case side2 => exact HC0_0.out);rintro e w10 ⟨rfl,hb⟩;refine ⟨_,rfl,?_⟩;have n0_:=zm_ (blk_below (g:=gb123) (o:=.cells #[.slice A0_0 l0_0.length c0_0] 24 (0,0)) zK_ hb);have n1_:=zm_ (below_step zG_ hb);clear BK123;clear HB;have BK123:=n0_;have HB:=n1_;clear n0_ n1_;(try clear hb)))
 go_ret
 exact ⟨zE_,zG_⟩

def spec_l01In.f (a0 : Int) (a1 : Int) (a2 : Int) : Option (Bool):=if a0 ≥ a1 then (some (decide (a0 ≤ a2))) else (some false)
theorem spec_l01In.calls (a0 : Int) (a1 : Int) (a2 : Int) (r : Bool) (w : World) (h : spec_l01In.f a0 a1 a2 = some r) :
  Calls Tryz.prog 16 #[.int .i64 a0,.int .i64 a1,.int .i64 a2] w fun e w' => e = .returned (.bool r) ∧ Drawn0 w w':=by
 have H : (if a0 ≥ a1 then (some (decide (a0 ≤ a2))) else (some false)) = some r:=h
 clear h
 by_cases c4 : a0 ≥ a1
 ·rw [if_pos c4] at H
  have c4b0 : decide (a1 ≤ a0) = true:=decide_eq_true c4
  clear c4
  obtain rfl:=zi_ H
  go_enter Tryz.func16,Tryz.ntmps16
  go_wp2
  go_ret
  exact zX_
 rw [if_neg c4] at H
 have c4b0 : decide (a1 ≤ a0) = false:=decide_eq_false c4
 clear c4
 obtain rfl:=zi_ H
 go_enter Tryz.func16,Tryz.ntmps16
 go_wp2
 go_ret
 exact zX_

def spec_RuleAt.l0 : Nat → ByteArray → Int → List (S49) → Option (Int)
 |0,_,_,_ => none
 |k + 1,x1,x5,x126000 => if x5 < (x126000.length : Int) then (if 0 ≤ x5 then (if ((rd_T49 x126000 x5).f0).toList = x1.toList then (some x5) else (spec_RuleAt.l0 k x1 (wrap64 (x5 + 1)) x126000)) else (none)) else (some (-1))
def spec_RuleAt.f (k : Nat) (l0_0 : List (S49)) (a1 : ByteArray) : Option (Int):=spec_RuleAt.l0 k a1 0 l0_0
theorem spec_RuleAt.calls (k : Nat) (A0_0 : Option Addr) (c0_0 : Nat) (l0_0 : List (S49)) (a1 : ByteArray) (r : Int) (w : World) (hr0_0 : Kd.C k49 w A0_0 l0_0.length l0_0) (hc0_0 : l0_0.length ≤ c0_0) (h : spec_RuleAt.f k l0_0 a1 = some r) :
  Calls Tryz.prog 17 #[.agg #[.slice A0_0 l0_0.length c0_0],.string a1] w fun e w' => e = .returned (.int .i64 r) ∧ Below w.heap.size w w':=by
 have hu29:=Tryz.underlying29
 have HR0_0:=zm_ hr0_0
 have HC0_0:=zm_ hc0_0
 clear hr0_0 hc0_0
 have HB:=zm_ (Below.refl w.heap.size w)
 have H : (spec_RuleAt.l0 k a1 0 l0_0) = some r:=h
 clear h
 have H':=zm_ H
 clear H
 go_enter Tryz.func17,Tryz.ntmps17
 go_wp2_with (first|((with_reducible refine gate_dst (N:=2) rfl ?_);refine box_event ?hg (N:=2) ?hd (cs:=#[.slice A0_0 l0_0.length c0_0]) (t:=29) ?hr ?_;(case hd => rfl);(case hg => rfl);(case hr => first|(go_simp;done)|(go_simp;rfl));intro gb125 hg w3 hbox hb;have n0_:=zm_ (below_step zB_ hb);have n1_:=zm_ (hbox);have n2_:=zm_ ((by rw [hg];exact (below_size zB_) : w.heap.size ≤ gb125));have n3_:=zm_ ((by rw [hg];exact (below_size zB_) : w.heap.size ≤ gb125));clear HB;have HB:=n0_;have BK125:=n1_;have GW125:=n2_;have GE125:=n3_;clear n0_ n1_ n2_ n3_;clear hb hbox hg))
 go_loopg [5] k (fun kq v5 w' => ∃ (x5_1 : Int),v5 = .int .i64 x5_1 ∧ Aside0 (spec_RuleAt.l0 kq a1 x5_1 l0_0 = some r) ∧ Aside0 (kq ≤ k) ∧ Aside0 (w'.heap[gb125]? = some (.cells #[(.slice A0_0 l0_0.length c0_0)] 29 (0,0))) ∧ Aside0 (Below w.heap.size w w'))
 case atStart => exact ⟨(0),zV_,H',⟨Nat.le_refl _⟩,⟨zK_⟩,⟨zG_⟩⟩
 case round =>
  clear H'
  obtain ⟨x5_1,rfl,HA,HK1,BK125,HB⟩:=hrel
  cases gk with
  |zero => exact absurd HA.out (by simp [spec_RuleAt.l0])
  |succ k1 =>
   have H:=HA.out
   clear HA
   simp only [spec_RuleAt.l0] at H
   by_cases c4 : x5_1 < (l0_0.length : Int)
   rotate_left
   ·rw [if_neg c4] at H
    have c4b0:=decide_eq_false c4
    clear c4
    obtain rfl:=zi_ H
    have hcz9_0 : wr.cell? ⟨gb125,0,none⟩ = some (.slice A0_0 l0_0.length c0_0):=(zc_ BK125.out 0).trans rfl
    have hfz9_0:=zf_ BK125.out 0
    go_wp2
    go_ret
    exact ⟨zE_,zG_⟩


   rw [if_pos c4] at H
   have c4b0:=decide_eq_true c4
   clear c4
   by_cases c5 : 0 ≤ x5_1
   rotate_left
   ·rw [if_neg c5] at H
    cases H
   rw [if_pos c5] at H
   have c5b0:=decide_eq_true c5
   clear c5
   by_cases c6 : ((rd_T49 l0_0 x5_1).f0).toList = a1.toList
   ·rw [if_pos c6] at H
    have c6b0 : (((rd_T49 l0_0 x5_1).f0).toList == a1.toList) = true:=beq_iff_eq.mpr c6
    have c6b1 : (((rd_T49 l0_0 x5_1).f0).toList != a1.toList) = false:=bne_eq_false_iff_eq.mpr c6
    clear c6
    obtain rfl:=zi_ H
    have hcz7_0 : wr.cell? ⟨gb125,0,none⟩ = some (.slice A0_0 l0_0.length c0_0):=(zc_ BK125.out 0).trans rfl
    have hfz7_0:=zf_ BK125.out 0
    have p126 : 0 ≤ (x5_1 : Int):=zo_
    have q126 : x5_1 < (l0_0.length : Int):=zo_
    obtain ⟨ad126,A126_1,c126_1,A126_2,c126_2,e126,hx126_0,hx126_1,hx126_2,hl126_1,hi126_1,hl126_2,hi126_2⟩:=at_T49 HR0_0.out x5_1 p126 q126
    cases e126
    replace hx126_0:=(HB.out.cell (zb_ w _ hx126_0)).trans hx126_0
    replace hx126_1:=(HB.out.cell (zb_ w _ hx126_1)).trans hx126_1
    replace hx126_2:=(HB.out.cell (zb_ w _ hx126_2)).trans hx126_2
    have HR126_1:=zm_ hi126_1
    have HC126_1:=zm_ hl126_1
    clear hi126_1 hl126_1
    have HR126_2:=zm_ hi126_2
    have HC126_2:=zm_ hl126_2
    clear hi126_2 hl126_2
    replace p126:=eq_true p126
    replace q126:=eq_true q126
    go_wp2
    go_ret
    exact ⟨zE_,zG_⟩
   rw [if_neg c6] at H
   have c6b0 : (((rd_T49 l0_0 x5_1).f0).toList == a1.toList) = false:=beq_eq_false_iff_ne.mpr c6
   have c6b1 : (((rd_T49 l0_0 x5_1).f0).toList != a1.toList) = true:=bne_iff_ne.mpr c6
   have H':=zm_ H
   clear H
   have hcz8_0 : wr.cell? ⟨gb125,0,none⟩ = some (.slice A0_0 l0_0.length c0_0):=(zc_ BK125.out 0).trans rfl
   have hfz8_0:=zf_ BK125.out 0
   have p126 : 0 ≤ (x5_1 : Int):=zo_
   have q126 : x5_1 < (l0_0.length : Int):=zo_
   obtain ⟨ad126,A126_1,c126_1,A126_2,c126_2,e126,hx126_0,hx126_1,hx126_2,hl126_1,hi126_1,hl126_2,hi126_2⟩:=at_T49 HR0_0.out x5_1 p126 q126
   cases e126
   replace hx126_0:=(HB.out.cell (zb_ w _ hx126_0)).trans hx126_0
   replace hx126_1:=(HB.out.cell (zb_ w _ hx126_1)).trans hx126_1
   replace hx126_2:=(HB.out.cell (zb_ w _ hx126_2)).trans hx126_2
   have HR126_1:=zm_ hi126_1
   have HC126_1:=zm_ hl126_1
   clear hi126_1 hl126_1
   have HR126_2:=zm_ hi126_2
   have HC126_2:=zm_ hl126_2
   clear hi126_2 hl126_2
   replace p126:=eq_true p126
   replace q126:=eq_true q126
   go_wp2
   go_roundg k1
   case measure => have:=HK1.out;omega
   case rel => exact ⟨(wrap64 (x5_1 + 1)),zV_,H',⟨by have:=HK1.out;omega⟩,⟨zK_⟩,⟨zG_⟩⟩
end Go.Proofs.YtkbgmojomgelbaaGreat.MFnExactGrammarOk
