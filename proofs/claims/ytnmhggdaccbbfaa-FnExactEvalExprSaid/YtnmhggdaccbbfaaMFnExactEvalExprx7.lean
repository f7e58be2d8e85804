import Derived.Test.YtnmhggdaccbbfaaMFnExactEvalExprx0
import Derived.Test.YtnmhggdaccbbfaaMFnExactEvalExprx6
namespace Go.Proofs.Ytnmhggdaccbbfaa.MFnExactEvalExpr
open Go.RowKit Go.Proofs.YtnmhggdaccbbfaaW.PrintWords Go.Proofs.YtnmhggdaccbbfaaW.PrintLast Go.Proofs.YtnmhggdaccbbfaaW.PrintMore
attribute [local go_sem] max2_int min2_int max_two min_two max_three min_three max_four min_four
set_option linter.unusedVariables false
set_option linter.unusedSimpArgs false

def laws_szExNodeS.l0 : Nat → List (S126) → Int → Int → Option (Int)
 |0,_,_,_ => none
 |k + 1,x0,x1,x5 => if x5 < (x0.length : Int) then (if 0 ≤ x5 then ((laws_szExNode.f ((rd_T126 x0 x5).f0) ((rd_T126 x0 x5).f1) ((rd_T126 x0 x5).f2) ((rd_T126 x0 x5).f3) x1).bind fun t230 => (if t230 < 0 then (some (-1)) else (laws_szExNodeS.l0 k x0 t230 (wrap64 (x5 + 1))))) else (none)) else (some x1)
def laws_szExNodeS.f (k : Nat) (l0 : List (S126)) (a1 : Int) : Option (Int):=if (wrap64 (a1 - (l0.length : Int))) < 0 then (some (-1)) else (laws_szExNodeS.l0 k l0 (wrap64 (a1 - (l0.length : Int))) 0)
theorem laws_szExNodeS.mono_l : ∀ k,(∀ y0 y1 y2,LeO (laws_szExNodeS.l0 k y0 y1 y2) (laws_szExNodeS.l0 (k + 1) y0 y1 y2))
 |0 => fun _ _ _ r h => by simp [laws_szExNodeS.l0] at h
 |k + 1 => by
  have ih0:=laws_szExNodeS.mono_l k
  ·intro y0 y1 y2
   unfold laws_szExNodeS.l0
   repeat' first
   |(with_reducible exact ih0 _ _ _)
   |(with_reducible exact LeO.refl _)
   |(with_reducible exact LeO.none _)
   |(with_reducible refine LeO.ite ?_ ?_)
   |(with_reducible refine LeO.bind ?_ (fun _ => ?_))
theorem laws_szExNodeS.mono : ∀ a0 a1 k,LeO (laws_szExNodeS.f k a0 a1) (laws_szExNodeS.f (k + 1) a0 a1):=by
 intro a0 a1 k
 have ih0:=laws_szExNodeS.mono_l k
 unfold laws_szExNodeS.f
 repeat' first
   |(with_reducible exact ih0 _ _ _)
   |(with_reducible exact LeO.refl _)
   |(with_reducible exact LeO.none _)
   |(with_reducible refine LeO.ite ?_ ?_)
   |(with_reducible refine LeO.bind ?_ (fun _ => ?_))
set_option maxHeartbeats 8000000 in
set_option maxRecDepth 100000 in
theorem laws_szExNodeS.calls (k : Nat) (A0 : Option Addr) (c0 : Nat) (l0 : List (S126)) (a1 : Int) (r : Int) (w : World) (hr0 : Kd.C k126 w A0 l0.length l0) (hc0 : l0.length ≤ c0) (h : laws_szExNodeS.f k l0 a1 = some r) :
  Calls Try.prog 63 #[.slice A0 l0.length c0,.int .i64 a1] w fun e w' => e = .returned (.int .i64 r) ∧ Below w.heap.size w w':=by
 have hu126:=Try.underlying126
 have HR0:=zm_ hr0
 have HC0:=zm_ hc0
 clear hr0 hc0
 have HB:=zm_ (Below.refl w.heap.size w)
 have H : (if (wrap64 (a1 - (l0.length : Int))) < 0 then (some (-1)) else (laws_szExNodeS.l0 k l0 (wrap64 (a1 - (l0.length : Int))) 0)) = some r:=h
 clear h
 by_cases c3 : (wrap64 (a1 - (l0.length : Int))) < 0
 ·rw [if_pos c3] at H
  have c3b0 : decide ((wrap64 (a1 - (l0.length : Int))) < 0) = true:=decide_eq_true c3
  clear c3
  obtain rfl:=Option.some.inj H
  go_enter Try.func63,Try.ntmps63
  go_wp2
  go_ret
  exact ⟨by first|rfl|(simp [errW_none,errW_some] <;> rfl)|(simp [*,errW_none,errW_some] <;> rfl),by repeat (first|(with_reducible first|exact HB.out|apply za_|apply zn_|apply zd_)|exact HB.out)⟩
 ·rw [if_neg c3] at H
  have c3b0 : decide ((wrap64 (a1 - (l0.length : Int))) < 0) = false:=decide_eq_false c3
  clear c3
  have H':=zm_ H
  clear H
  go_enter Try.func63,Try.ntmps63
  go_wp2
  go_loopg [1,5] k (fun kq v1 v5 w' => ∃ (x1_1 : Int) (x5_1 : Int),v1 = .int .i64 x1_1 ∧ v5 = .int .i64 x5_1 ∧ Aside0 (laws_szExNodeS.l0 kq l0 x1_1 x5_1 = some r) ∧ Aside0 (kq ≤ k) ∧ Aside0 (Below w.heap.size w w'))
  case atStart => exact ⟨(wrap64 (a1 - (l0.length : Int))),(0),(by first|rfl|(exact congrArg Value.bool (isEmpty_ne _))|(exact congrArg Value.bool (isEmpty_ne' _))|(exact congrArg Value.bool (isEmpty_eq _))|(simp;done)|(simp [*];done)),(by first|rfl|(exact congrArg Value.bool (isEmpty_ne _))|(exact congrArg Value.bool (isEmpty_ne' _))|(exact congrArg Value.bool (isEmpty_eq _))|(simp;done)|(simp [*];done)),H',⟨Nat.le_refl _⟩,⟨by repeat (first|(with_reducible first|exact HB.out|apply za_|apply zn_|apply zd_)|exact HB.out)⟩⟩
  case round =>
   clear H'
   try clear p2
   try clear c3
   try clear c3b0
   obtain ⟨x1_1,x5_1,rfl,rfl,HA,HK1,HB⟩:=hrel
   cases gk with
   |zero => exact absurd HA.out (by simp [laws_szExNodeS.l0])
   |succ k1 =>
    have H:=HA.out
    clear HA
    simp only [laws_szExNodeS.l0] at H
    by_cases c4 : x5_1 < (l0.length : Int)
    ·rw [if_pos c4] at H
     have c4b0 : decide (x5_1 < (l0.length : Int)) = true:=decide_eq_true c4
     clear c4
     by_cases c5 : 0 ≤ x5_1
     ·rw [if_pos c5] at H
      have c5b0 : decide (0 ≤ x5_1) = true:=decide_eq_true c5
      clear c5
      replace H:=Option.bind_eq_some_iff.mp H
      obtain ⟨t230,A60,H⟩:=H
      replace H : (if t230 < 0 then (some (-1)) else (laws_szExNodeS.l0 k1 l0 t230 (wrap64 (x5_1 + 1)))) = some r:=H
      have A6:=zm_ A60
      clear A60
      by_cases c7 : t230 < 0
      ·rw [if_pos c7] at H
       have c7b0 : decide (t230 < 0) = true:=decide_eq_true c7
       clear c7
       obtain rfl:=Option.some.inj H
       have p229 : 0 ≤ (x5_1 : Int):=zo_
       have q229 : x5_1 < (l0.length : Int):=zo_
       obtain ⟨ad229,A229_3,c229_3,e229,hx229_0,hx229_1,hx229_2,hx229_3,hl229_3,hi229_3⟩:=at_T126 HR0.out x5_1 p229 q229
       cases e229
       replace hx229_0:=(HB.out.cell (zb_ w _ hx229_0)).trans hx229_0
       replace hx229_1:=(HB.out.cell (zb_ w _ hx229_1)).trans hx229_1
       replace hx229_2:=(HB.out.cell (zb_ w _ hx229_2)).trans hx229_2
       replace hx229_3:=(HB.out.cell (zb_ w _ hx229_3)).trans hx229_3
       have HR229_3:=zm_ hi229_3
       have HC229_3:=zm_ hl229_3
       clear hi229_3 hl229_3
       replace p229:=eq_true p229
       replace q229:=eq_true q229
       go_wp2_with (first|((with_reducible refine gate_callee (f:=88) rfl ?_);refine goesL_ (some 23) rfl rfl Try.func88 (by kernel_rfl) rfl #[.agg #[.int .i64 ((rd_T126 l0 x5_1).f0),.int .i64 ((rd_T126 l0 x5_1).f1),.string ((rd_T126 l0 x5_1).f2),.slice A229_3 ((rd_T126 l0 x5_1).f3).length c229_3],.int .i64 x1_1] rfl (by (try simp only [List.map_toArray,List.map_cons,List.map_nil]);first|done|rfl|(simp only [List.length_drop,List.length_take];rfl)) ?_;(with_reducible refine (laws_szExNode.calls ((rd_T126 l0 x5_1).f0) ((rd_T126 l0 x5_1).f1) ((rd_T126 l0 x5_1).f2) _ _ ((rd_T126 l0 x5_1).f3) x1_1 t230 _ ?side1 ?side2 A6.out).mono ?_);(case side1 => repeat (first|exact (Kd.C_below HR229_3.out HB.out)|(with_reducible refine Kd.C_alloc ?_ _)|(with_reducible refine Kd.C_drewN ?_ _)|(with_reducible refine Kd.C_drew ?_)));(case side2 => exact HC229_3.out);rintro e w8 ⟨rfl,hb⟩;refine ⟨_,rfl,?_⟩;have n0_:=zm_ (below_step (by repeat (first|(with_reducible first|exact HB.out|apply za_|apply zn_|apply zd_)|exact HB.out)) hb);clear HB;have HB:=n0_;clear n0_;(try clear hb);(try clear hb2);(try clear hk);(try clear hi)))
       go_ret
       exact ⟨by first|rfl|(simp [errW_none,errW_some] <;> rfl)|(simp [*,errW_none,errW_some] <;> rfl),by repeat (first|(with_reducible first|exact HB.out|apply za_|apply zn_|apply zd_)|exact HB.out)⟩
      ·rw [if_neg c7] at H
       have c7b0 : decide (t230 < 0) = false:=decide_eq_false c7
       clear c7
       have H':=zm_ H
       clear H
       have p229 : 0 ≤ (x5_1 : Int):=zo_
       have q229 : x5_1 < (l0.length : Int):=zo_
       obtain ⟨ad229,A229_3,c229_3,e229,hx229_0,hx229_1,hx229_2,hx229_3,hl229_3,hi229_3⟩:=at_T126 HR0.out x5_1 p229 q229
       cases e229
       replace hx229_0:=(HB.out.cell (zb_ w _ hx229_0)).trans hx229_0
       replace hx229_1:=(HB.out.cell (zb_ w _ hx229_1)).trans hx229_1
       replace hx229_2:=(HB.out.cell (zb_ w _ hx229_2)).trans hx229_2
       replace hx229_3:=(HB.out.cell (zb_ w _ hx229_3)).trans hx229_3
       have HR229_3:=zm_ hi229_3
       have HC229_3:=zm_ hl229_3
       clear hi229_3 hl229_3
       replace p229:=eq_true p229
       replace q229:=eq_true q229
       go_wp2_with (first|((with_reducible refine gate_callee (f:=88) rfl ?_);refine goesL_ (some 23) rfl rfl Try.func88 (by kernel_rfl) rfl #[.agg #[.int .i64 ((rd_T126 l0 x5_1).f0),.int .i64 ((rd_T126 l0 x5_1).f1),.string ((rd_T126 l0 x5_1).f2),.slice A229_3 ((rd_T126 l0 x5_1).f3).length c229_3],.int .i64 x1_1] rfl (by (try simp only [List.map_toArray,List.map_cons,List.map_nil]);first|done|rfl|(simp only [List.length_drop,List.length_take];rfl)) ?_;(with_reducible refine (laws_szExNode.calls ((rd_T126 l0 x5_1).f0) ((rd_T126 l0 x5_1).f1) ((rd_T126 l0 x5_1).f2) _ _ ((rd_T126 l0 x5_1).f3) x1_1 t230 _ ?side1 ?side2 A6.out).mono ?_);(case side1 => repeat (first|exact (Kd.C_below HR229_3.out HB.out)|(with_reducible refine Kd.C_alloc ?_ _)|(with_reducible refine Kd.C_drewN ?_ _)|(with_reducible refine Kd.C_drew ?_)));(case side2 => exact HC229_3.out);rintro e w9 ⟨rfl,hb⟩;refine ⟨_,rfl,?_⟩;have n0_:=zm_ (below_step (by repeat (first|(with_reducible first|exact HB.out|apply za_|apply zn_|apply zd_)|exact HB.out)) hb);clear HB;have HB:=n0_;clear n0_;(try clear hb);(try clear hb2);(try clear hk);(try clear hi)))
       go_roundg k1
       case measure => have:=HK1.out;omega
       case rel => exact ⟨(t230),(wrap64 (x5_1 + 1)),(by first|rfl|(exact congrArg Value.bool (isEmpty_ne _))|(exact congrArg Value.bool (isEmpty_ne' _))|(exact congrArg Value.bool (isEmpty_eq _))|(simp;done)|(simp [*];done)),(by first|rfl|(exact congrArg Value.bool (isEmpty_ne _))|(exact congrArg Value.bool (isEmpty_ne' _))|(exact congrArg Value.bool (isEmpty_eq _))|(simp;done)|(simp [*];done)),H',⟨by have:=HK1.out;omega⟩,⟨by repeat (first|(with_reducible first|exact HB.out|apply za_|apply zn_|apply zd_)|exact HB.out)⟩⟩
     ·rw [if_neg c5] at H
      exact absurd H (by simp)
    ·rw [if_neg c4] at H
     have c4b0 : decide (x5_1 < (l0.length : Int)) = false:=decide_eq_false c4
     clear c4
     obtain rfl:=Option.some.inj H
     go_wp2
     go_ret
     exact ⟨by first|rfl|(simp [errW_none,errW_some] <;> rfl)|(simp [*,errW_none,errW_some] <;> rfl),by repeat (first|(with_reducible first|exact HB.out|apply za_|apply zn_|apply zd_)|exact HB.out)⟩

def laws_szExpr.f (k : Nat) (l0_0 : List (S126)) (a1 : Int) : Option (Int):=(laws_szExNodeS.f k l0_0 a1).bind fun t232 => (if t232 < 0 then (some (-1)) else (some t232))
theorem laws_szExpr.mono : ∀ a0 a1 k,LeO (laws_szExpr.f k a0 a1) (laws_szExpr.f (k + 1) a0 a1):=by
 intro a0 a1 k
 unfold laws_szExpr.f
 repeat' first
   |(with_reducible exact laws_szExNodeS.mono _ _ _)
   |(with_reducible exact LeO.refl _)
   |(with_reducible exact LeO.none _)
   |(with_reducible refine LeO.ite ?_ ?_)
   |(with_reducible refine LeO.bind ?_ (fun _ => ?_))
set_option maxHeartbeats 8000000 in
set_option maxRecDepth 100000 in
theorem laws_szExpr.calls (k : Nat) (A0_0 : Option Addr) (c0_0 : Nat) (l0_0 : List (S126)) (a1 : Int) (r : Int) (w : World) (hr0_0 : Kd.C k126 w A0_0 l0_0.length l0_0) (hc0_0 : l0_0.length ≤ c0_0) (h : laws_szExpr.f k l0_0 a1 = some r) :
  Calls Try.prog 25 #[.agg #[.slice A0_0 l0_0.length c0_0],.int .i64 a1] w fun e w' => e = .returned (.int .i64 r) ∧ Below w.heap.size w w':=by
 have hu52:=Try.underlying52
 have HR0_0:=zm_ hr0_0
 have HC0_0:=zm_ hc0_0
 clear hr0_0 hc0_0
 have HB:=zm_ (Below.refl w.heap.size w)
 have H : ((laws_szExNodeS.f k l0_0 a1).bind fun t232 => (if t232 < 0 then (some (-1)) else (some t232))) = some r:=h
 clear h
 replace H:=Option.bind_eq_some_iff.mp H
 obtain ⟨t232,A30,H⟩:=H
 replace H : (if t232 < 0 then (some (-1)) else (some t232)) = some r:=H
 have A3:=zm_ A30
 clear A30
 by_cases c4 : t232 < 0
 ·rw [if_pos c4] at H
  have c4b0 : decide (t232 < 0) = true:=decide_eq_true c4
  clear c4
  obtain rfl:=Option.some.inj H
  go_enter Try.func25,Try.ntmps25
  go_wp2_with (first|((with_reducible refine gate_dst (N:=2) rfl ?_);refine box_event ?hg (N:=2) ?hd (cs:=#[.slice A0_0 l0_0.length c0_0]) (t:=52) ?hr ?_;(case hd => rfl);(case hg => rfl);(case hr => first|(go_simp;done)|(go_simp;rfl));intro gb231 hg w5 hbox hb;have n0_:=zm_ (below_step (by repeat (first|(with_reducible first|exact HB.out|apply za_|apply zn_|apply zd_)|exact HB.out)) hb);have n1_:=zm_ (hbox);have n2_:=zm_ ((by rw [hg];exact (below_size (by repeat (first|(with_reducible first|exact HB.out|apply za_|apply zn_|apply zd_)|exact HB.out))) : w.heap.size ≤ gb231));have n3_:=zm_ ((by rw [hg];exact (below_size (by repeat (first|(with_reducible first|exact HB.out|apply za_|apply zn_|apply zd_)|exact HB.out))) : w.heap.size ≤ gb231));clear HB;have HB:=n0_;have BK231:=n1_;have GW231:=n2_;have GE231:=n3_;clear n0_ n1_ n2_ n3_;clear hb hbox hg;have hcz6_0 : w5.cell? ⟨gb231,0,none⟩ = some (.slice A0_0 l0_0.length c0_0):=(zc_ BK231.out 0).trans rfl;have hfz6_0:=zf_ BK231.out 0)|((with_reducible refine gate_callee (f:=63) rfl ?_);refine goesL_ (some 8) rfl rfl Try.func63 (by kernel_rfl) rfl #[.slice A0_0 l0_0.length c0_0,.int .i64 a1] rfl (by (try simp only [List.map_toArray,List.map_cons,List.map_nil]);first|done|rfl|(simp only [List.length_drop,List.length_take];rfl)) ?_;(with_reducible refine (laws_szExNodeS.calls k _ _ l0_0 a1 t232 _ ?side1 ?side2 A3.out).mono ?_);(case side1 => repeat (first|exact (Kd.C_below HR0_0.out HB.out)|(with_reducible refine Kd.C_alloc ?_ _)|(with_reducible refine Kd.C_drewN ?_ _)|(with_reducible refine Kd.C_drew ?_)));(case side2 => exact HC0_0.out);rintro e w7 ⟨rfl,hb⟩;refine ⟨_,rfl,?_⟩;have n0_:=zm_ (blk_below (g:=gb231) (o:=.cells #[.slice A0_0 l0_0.length c0_0] 52 (0,0)) (by (with_reducible repeat first|refine zl_ ?_ _|refine zr_ ?_|refine zk_ ?_ _);exact BK231.out) hb);have n1_:=zm_ (below_step (by repeat (first|(with_reducible first|exact HB.out|apply za_|apply zn_|apply zd_|refine zs_ ?_ GE231.out)|exact HB.out)) hb);clear BK231;clear HB;have BK231:=n0_;have HB:=n1_;clear n0_ n1_;(try clear hb);(try clear hb2);(try clear hk);(try clear hi)))
  go_ret
  exact ⟨by first|rfl|(simp [errW_none,errW_some] <;> rfl)|(simp [*,errW_none,errW_some] <;> rfl),by repeat (first|(with_reducible first|exact HB.out|apply za_|apply zn_|apply zd_|refine zs_ ?_ GE231.out)|exact HB.out)⟩
 ·rw [if_neg c4] at H
  have c4b0 : decide (t232 < 0) = false:=decide_eq_false c4
  clear c4
  obtain rfl:=Option.some.inj H
  go_enter Try.func25,Try.ntmps25
  go_wp2_with (first|((with_reducible refine gate_dst (N:=2) rfl ?_);refine box_event ?hg (N:=2) ?hd (cs:=#[.slice A0_0 l0_0.length c0_0]) (t:=52) ?hr ?_;(case hd => rfl);(case hg => rfl);(case hr => first|(go_simp;done)|(go_simp;rfl));intro gb231 hg w8 hbox hb;have n0_:=zm_ (below_step (by repeat (first|(with_reducible first|exact HB.out|apply za_|apply zn_|apply zd_)|exact HB.out)) hb);have n1_:=zm_ (hbox);have n2_:=zm_ ((by rw [hg];exact (below_size (by repeat (first|(with_reducible first|exact HB.out|apply za_|apply zn_|apply zd_)|exact HB.out))) : w.heap.size ≤ gb231));have n3_:=zm_ ((by rw [hg];exact (below_size (by repeat (first|(with_reducible first|exact HB.out|apply za_|apply zn_|apply zd_)|exact HB.out))) : w.heap.size ≤ gb231));clear HB;have HB:=n0_;have BK231:=n1_;have GW231:=n2_;have GE231:=n3_;clear n0_ n1_ n2_ n3_;clear hb hbox hg;have hcz9_0 : w8.cell? ⟨gb231,0,none⟩ = some (.slice A0_0 l0_0.length c0_0):=(zc_ BK231.out 0).trans rfl;have hfz9_0:=zf_ BK231.out 0)|((with_reducible refine gate_callee (f:=63) rfl ?_);refine goesL_ (some 8) rfl rfl Try.func63 (by kernel_rfl) rfl #[.slice A0_0 l0_0.length c0_0,.int .i64 a1] rfl (by (try simp only [List.map_toArray,List.map_cons,List.map_nil]);first|done|rfl|(simp only [List.length_drop,List.length_take];rfl)) ?_;(with_reducible refine (laws_szExNodeS.calls k _ _ l0_0 a1 t232 _ ?side1 ?side2 A3.out).mono ?_);(case side1 => repeat (first|exact (Kd.C_below HR0_0.out HB.out)|(with_reducible refine Kd.C_alloc ?_ _)|(with_reducible refine Kd.C_drewN ?_ _)|(with_reducible refine Kd.C_drew ?_)));(case side2 => exact HC0_0.out);rintro e w10 ⟨rfl,hb⟩;refine ⟨_,rfl,?_⟩;have n0_:=zm_ (blk_below (g:=gb231) (o:=.cells #[.slice A0_0 l0_0.length c0_0] 52 (0,0)) (by (with_reducible repeat first|refine zl_ ?_ _|refine zr_ ?_|refine zk_ ?_ _);exact BK231.out) hb);have n1_:=zm_ (below_step (by repeat (first|(with_reducible first|exact HB.out|apply za_|apply zn_|apply zd_|refine zs_ ?_ GE231.out)|exact HB.out)) hb);clear BK231;clear HB;have BK231:=n0_;have HB:=n1_;clear n0_ n1_;(try clear hb);(try clear hb2);(try clear hk);(try clear hi)))
  go_ret
  exact ⟨by first|rfl|(simp [errW_none,errW_some] <;> rfl)|(simp [*,errW_none,errW_some] <;> rfl),by repeat (first|(with_reducible first|exact HB.out|apply za_|apply zn_|apply zd_|refine zs_ ?_ GE231.out)|exact HB.out)⟩

def laws_szVar.f (a0_0 : ByteArray) (a0_1 : Int) (a1 : Int) : Option (Int):=if (wrap64 (a1 - (a0_0.size : Int))) < 0 then (some (-1)) else (some (wrap64 (a1 - (a0_0.size : Int))))
set_option maxHeartbeats 8000000 in
set_option maxRecDepth 100000 in
theorem laws_szVar.calls (a0_0 : ByteArray) (a0_1 : Int) (a1 : Int) (r : Int) (w : World) (h : laws_szVar.f a0_0 a0_1 a1 = some r) :
  Calls Try.prog 64 #[.agg #[.string a0_0,.int .i64 a0_1],.int .i64 a1] w fun e w' => e = .returned (.int .i64 r) ∧ Below w.heap.size w w':=by
 have hu98:=Try.underlying98
 have HB:=zm_ (Below.refl w.heap.size w)
 have H : (if (wrap64 (a1 - (a0_0.size : Int))) < 0 then (some (-1)) else (some (wrap64 (a1 - (a0_0.size : Int))))) = some r:=h
 clear h
 by_cases c3 : (wrap64 (a1 - (a0_0.size : Int))) < 0
 ·rw [if_pos c3] at H
  have c3b0 : decide ((wrap64 (a1 - (a0_0.size : Int))) < 0) = true:=decide_eq_true c3
  clear c3
  obtain rfl:=Option.some.inj H
  go_enter Try.func64,Try.ntmps64
  go_wp2_with (first|((with_reducible refine gate_dst (N:=2) rfl ?_);refine box_event ?hg (N:=2) ?hd (cs:=#[.string a0_0,.int .i64 a0_1]) (t:=98) ?hr ?_;(case hd => rfl);(case hg => rfl);(case hr => first|(go_simp;done)|(go_simp;rfl));intro gb233 hg w4 hbox hb;have n0_:=zm_ (below_step (by repeat (first|(with_reducible first|exact HB.out|apply za_|apply zn_|apply zd_)|exact HB.out)) hb);have n1_:=zm_ (hbox);have n2_:=zm_ ((by rw [hg];exact (below_size (by repeat (first|(with_reducible first|exact HB.out|apply za_|apply zn_|apply zd_)|exact HB.out))) : w.heap.size ≤ gb233));have n3_:=zm_ ((by rw [hg];exact (below_size (by repeat (first|(with_reducible first|exact HB.out|apply za_|apply zn_|apply zd_)|exact HB.out))) : w.heap.size ≤ gb233));clear HB;have HB:=n0_;have BK233:=n1_;have GW233:=n2_;have GE233:=n3_;clear n0_ n1_ n2_ n3_;clear hb hbox hg;have hcz5_0 : w4.cell? ⟨gb233,0,none⟩ = some (.string a0_0):=(zc_ BK233.out 0).trans rfl;have hcz5_1 : w4.cell? ⟨gb233,1,none⟩ = some (.int .i64 a0_1):=(zc_ BK233.out 1).trans rfl;have hfz5_0:=zf_ BK233.out 0;have hfz5_1:=zf_ BK233.out 1))
  go_ret
  exact ⟨by first|rfl|(simp [errW_none,errW_some] <;> rfl)|(simp [*,errW_none,errW_some] <;> rfl),by repeat (first|(with_reducible first|exact HB.out|apply za_|apply zn_|apply zd_|refine zs_ ?_ GE233.out)|exact HB.out)⟩
 ·rw [if_neg c3] at H
  have c3b0 : decide ((wrap64 (a1 - (a0_0.size : Int))) < 0) = false:=decide_eq_false c3
  clear c3
  obtain rfl:=Option.some.inj H
  go_enter Try.func64,Try.ntmps64
  go_wp2_with (first|((with_reducible refine gate_dst (N:=2) rfl ?_);refine box_event ?hg (N:=2) ?hd (cs:=#[.string a0_0,.int .i64 a0_1]) (t:=98) ?hr ?_;(case hd => rfl);(case hg => rfl);(case hr => first|(go_simp;done)|(go_simp;rfl));intro gb233 hg w6 hbox hb;have n0_:=zm_ (below_step (by repeat (first|(with_reducible first|exact HB.out|apply za_|apply zn_|apply zd_)|exact HB.out)) hb);have n1_:=zm_ (hbox);have n2_:=zm_ ((by rw [hg];exact (below_size (by repeat (first|(with_reducible first|exact HB.out|apply za_|apply zn_|apply zd_)|exact HB.out))) : w.heap.size ≤ gb233));have n3_:=zm_ ((by rw [hg];exact (below_size (by repeat (first|(with_reducible first|exact HB.out|apply za_|apply zn_|apply zd_)|exact HB.out))) : w.heap.size ≤ gb233));clear HB;have HB:=n0_;have BK233:=n1_;have GW233:=n2_;have GE233:=n3_;clear n0_ n1_ n2_ n3_;clear hb hbox hg;have hcz7_0 : w6.cell? ⟨gb233,0,none⟩ = some (.string a0_0):=(zc_ BK233.out 0).trans rfl;have hcz7_1 : w6.cell? ⟨gb233,1,none⟩ = some (.int .i64 a0_1):=(zc_ BK233.out 1).trans rfl;have hfz7_0:=zf_ BK233.out 0;have hfz7_1:=zf_ BK233.out 1))
  go_ret
  exact ⟨by first|rfl|(simp [errW_none,errW_some] <;> rfl)|(simp [*,errW_none,errW_some] <;> rfl),by repeat (first|(with_reducible first|exact HB.out|apply za_|apply zn_|apply zd_|refine zs_ ?_ GE233.out)|exact HB.out)⟩

def laws_szVarS.l0 : Nat → List (S98) → Int → Int → Option (Int)
 |0,_,_,_ => none
 |k + 1,x0,x1,x5 => if x5 < (x0.length : Int) then (if 0 ≤ x5 then ((laws_szVar.f ((rd_T98 x0 x5).f0) ((rd_T98 x0 x5).f1) x1).bind fun t235 => (if t235 < 0 then (some (-1)) else (laws_szVarS.l0 k x0 t235 (wrap64 (x5 + 1))))) else (none)) else (some x1)
def laws_szVarS.f (k : Nat) (l0 : List (S98)) (a1 : Int) : Option (Int):=if (wrap64 (a1 - (l0.length : Int))) < 0 then (some (-1)) else (laws_szVarS.l0 k l0 (wrap64 (a1 - (l0.length : Int))) 0)
theorem laws_szVarS.mono_l : ∀ k,(∀ y0 y1 y2,LeO (laws_szVarS.l0 k y0 y1 y2) (laws_szVarS.l0 (k + 1) y0 y1 y2))
 |0 => fun _ _ _ r h => by simp [laws_szVarS.l0] at h
 |k + 1 => by
  have ih0:=laws_szVarS.mono_l k
  ·intro y0 y1 y2
   unfold laws_szVarS.l0
   repeat' first
   |(with_reducible exact ih0 _ _ _)
   |(with_reducible exact LeO.refl _)
   |(with_reducible exact LeO.none _)
   |(with_reducible refine LeO.ite ?_ ?_)
   |(with_reducible refine LeO.bind ?_ (fun _ => ?_))
theorem laws_szVarS.mono : ∀ a0 a1 k,LeO (laws_szVarS.f k a0 a1) (laws_szVarS.f (k + 1) a0 a1):=by
 intro a0 a1 k
 have ih0:=laws_szVarS.mono_l k
 unfold laws_szVarS.f
 repeat' first
   |(with_reducible exact ih0 _ _ _)
   |(with_reducible exact LeO.refl _)
   |(with_reducible exact LeO.none _)
   |(with_reducible refine LeO.ite ?_ ?_)
   |(with_reducible refine LeO.bind ?_ (fun _ => ?_))
set_option maxHeartbeats 8000000 in
set_option maxRecDepth 100000 in
theorem laws_szVarS.calls (k : Nat) (A0 : Option Addr) (c0 : Nat) (l0 : List (S98)) (a1 : Int) (r : Int) (w : World) (hr0 : Kd.C k98 w A0 l0.length l0) (hc0 : l0.length ≤ c0) (h : laws_szVarS.f k l0 a1 = some r) :
  Calls Try.prog 26 #[.slice A0 l0.length c0,.int .i64 a1] w fun e w' => e = .returned (.int .i64 r) ∧ Below w.heap.size w w':=by
 have hu98:=Try.underlying98
 have HR0:=zm_ hr0
 have HC0:=zm_ hc0
 clear hr0 hc0
 have HB:=zm_ (Below.refl w.heap.size w)
 have H : (if (wrap64 (a1 - (l0.length : Int))) < 0 then (some (-1)) else (laws_szVarS.l0 k l0 (wrap64 (a1 - (l0.length : Int))) 0)) = some r:=h
 clear h
 by_cases c3 : (wrap64 (a1 - (l0.length : Int))) < 0
 ·rw [if_pos c3] at H
  have c3b0 : decide ((wrap64 (a1 - (l0.length : Int))) < 0) = true:=decide_eq_true c3
  clear c3
  obtain rfl:=Option.some.inj H
  go_enter Try.func26,Try.ntmps26
  go_wp2
  go_ret
  exact ⟨by first|rfl|(simp [errW_none,errW_some] <;> rfl)|(simp [*,errW_none,errW_some] <;> rfl),by repeat (first|(with_reducible first|exact HB.out|apply za_|apply zn_|apply zd_)|exact HB.out)⟩
 ·rw [if_neg c3] at H
  have c3b0 : decide ((wrap64 (a1 - (l0.length : Int))) < 0) = false:=decide_eq_false c3
  clear c3
  have H':=zm_ H
  clear H
  go_enter Try.func26,Try.ntmps26
  go_wp2
  go_loopg [1,5] k (fun kq v1 v5 w' => ∃ (x1_1 : Int) (x5_1 : Int),v1 = .int .i64 x1_1 ∧ v5 = .int .i64 x5_1 ∧ Aside0 (laws_szVarS.l0 kq l0 x1_1 x5_1 = some r) ∧ Aside0 (kq ≤ k) ∧ Aside0 (Below w.heap.size w w'))
  case atStart => exact ⟨(wrap64 (a1 - (l0.length : Int))),(0),(by first|rfl|(exact congrArg Value.bool (isEmpty_ne _))|(exact congrArg Value.bool (isEmpty_ne' _))|(exact congrArg Value.bool (isEmpty_eq _))|(simp;done)|(simp [*];done)),(by first|rfl|(exact congrArg Value.bool (isEmpty_ne _))|(exact congrArg Value.bool (isEmpty_ne' _))|(exact congrArg Value.bool (isEmpty_eq _))|(simp;done)|(simp [*];done)),H',⟨Nat.le_refl _⟩,⟨by repeat (first|(with_reducible first|exact HB.out|apply za_|apply zn_|apply zd_)|exact HB.out)⟩⟩
  case round =>
   clear H'
   try clear c2
   try clear p2
   try clear c3
   try clear c3b0
   obtain ⟨x1_1,x5_1,rfl,rfl,HA,HK1,HB⟩:=hrel
   cases gk with
   |zero => exact absurd HA.out (by simp [laws_szVarS.l0])
   |succ k1 =>
    have H:=HA.out
    clear HA
    simp only [laws_szVarS.l0] at H
    by_cases c4 : x5_1 < (l0.length : Int)
    ·rw [if_pos c4] at H
     have c4b0 : decide (x5_1 < (l0.length : Int)) = true:=decide_eq_true c4
     clear c4
     by_cases c5 : 0 ≤ x5_1
     ·rw [if_pos c5] at H
      have c5b0 : decide (0 ≤ x5_1) = true:=decide_eq_true c5
      clear c5
      replace H:=Option.bind_eq_some_iff.mp H
      obtain ⟨t235,A60,H⟩:=H
      replace H : (if t235 < 0 then (some (-1)) else (laws_szVarS.l0 k1 l0 t235 (wrap64 (x5_1 + 1)))) = some r:=H
      have A6:=zm_ A60
      clear A60
      by_cases c7 : t235 < 0
      ·rw [if_pos c7] at H
       have c7b0 : decide (t235 < 0) = true:=decide_eq_true c7
       clear c7
       obtain rfl:=Option.some.inj H
       have p234 : 0 ≤ (x5_1 : Int):=zo_
       have q234 : x5_1 < (l0.length : Int):=zo_
       obtain ⟨ad234,e234,hx234_0,hx234_1⟩:=at_T98 HR0.out x5_1 p234 q234
       cases e234
       replace hx234_0:=(HB.out.cell (zb_ w _ hx234_0)).trans hx234_0
       replace hx234_1:=(HB.out.cell (zb_ w _ hx234_1)).trans hx234_1
       replace p234:=eq_true p234
       replace q234:=eq_true q234
       go_wp2_with (first|((with_reducible refine gate_callee (f:=64) rfl ?_);refine goesL_ (some 23) rfl rfl Try.func64 (by kernel_rfl) rfl #[.agg #[.string ((rd_T98 l0 x5_1).f0),.int .i64 ((rd_T98 l0 x5_1).f1)],.int .i64 x1_1] rfl (by (try simp only [List.map_toArray,List.map_cons,List.map_nil]);first|done|rfl|(simp only [List.length_drop,List.length_take];rfl)) ?_;(with_reducible refine (laws_szVar.calls ((rd_T98 l0 x5_1).f0) ((rd_T98 l0 x5_1).f1) x1_1 t235 _ A6.out).mono ?_);rintro e w8 ⟨rfl,hb⟩;refine ⟨_,rfl,?_⟩;have n0_:=zm_ (below_step (by repeat (first|(with_reducible first|exact HB.out|apply za_|apply zn_|apply zd_)|exact HB.out)) hb);clear HB;have HB:=n0_;clear n0_;(try clear hb);(try clear hb2);(try clear hk);(try clear hi)))
       go_ret
       exact ⟨by first|rfl|(simp [errW_none,errW_some] <;> rfl)|(simp [*,errW_none,errW_some] <;> rfl),by repeat (first|(with_reducible first|exact HB.out|apply za_|apply zn_|apply zd_)|exact HB.out)⟩
      ·rw [if_neg c7] at H
       have c7b0 : decide (t235 < 0) = false:=decide_eq_false c7
       clear c7
       have H':=zm_ H
       clear H
       have p234 : 0 ≤ (x5_1 : Int):=zo_
       have q234 : x5_1 < (l0.length : Int):=zo_
       obtain ⟨ad234,e234,hx234_0,hx234_1⟩:=at_T98 HR0.out x5_1 p234 q234
       cases e234
       replace hx234_0:=(HB.out.cell (zb_ w _ hx234_0)).trans hx234_0
       replace hx234_1:=(HB.out.cell (zb_ w _ hx234_1)).trans hx234_1
       replace p234:=eq_true p234
       replace q234:=eq_true q234
       go_wp2_with (first|((with_reducible refine gate_callee (f:=64) rfl ?_);refine goesL_ (some 23) rfl rfl Try.func64 (by kernel_rfl) rfl #[.agg #[.string ((rd_T98 l0 x5_1).f0),.int .i64 ((rd_T98 l0 x5_1).f1)],.int .i64 x1_1] rfl (by (try simp only [List.map_toArray,List.map_cons,List.map_nil]);first|done|rfl|(simp only [List.length_drop,List.length_take];rfl)) ?_;(with_reducible refine (laws_szVar.calls ((rd_T98 l0 x5_1).f0) ((rd_T98 l0 x5_1).f1) x1_1 t235 _ A6.out).mono ?_);rintro e w9 ⟨rfl,hb⟩;refine ⟨_,rfl,?_⟩;have n0_:=zm_ (below_step (by repeat (first|(with_reducible first|exact HB.out|apply za_|apply zn_|apply zd_)|exact HB.out)) hb);clear HB;have HB:=n0_;clear n0_;(try clear hb);(try clear hb2);(try clear hk);(try clear hi)))
       go_roundg k1
       case measure => have:=HK1.out;omega
       case rel => exact ⟨(t235),(wrap64 (x5_1 + 1)),(by first|rfl|(exact congrArg Value.bool (isEmpty_ne _))|(exact congrArg Value.bool (isEmpty_ne' _))|(exact congrArg Value.bool (isEmpty_eq _))|(simp;done)|(simp [*];done)),(by first|rfl|(exact congrArg Value.bool (isEmpty_ne _))|(exact congrArg Value.bool (isEmpty_ne' _))|(exact congrArg Value.bool (isEmpty_eq _))|(simp;done)|(simp [*];done)),H',⟨by have:=HK1.out;omega⟩,⟨by repeat (first|(with_reducible first|exact HB.out|apply za_|apply zn_|apply zd_)|exact HB.out)⟩⟩
     ·rw [if_neg c5] at H
      exact absurd H (by simp)
    ·rw [if_neg c4] at H
     have c4b0 : decide (x5_1 < (l0.length : Int)) = false:=decide_eq_false c4
     clear c4
     obtain rfl:=Option.some.inj H
     go_wp2
     go_ret
     exact ⟨by first|rfl|(simp [errW_none,errW_some] <;> rfl)|(simp [*,errW_none,errW_some] <;> rfl),by repeat (first|(with_reducible first|exact HB.out|apply za_|apply zn_|apply zd_)|exact HB.out)⟩

def laws_toIntS.l0 : Nat → List Int → List Int → Int → Option (List Int)
 |0,_,_,_ => none
 |k + 1,x0,x3,x4 => if x4 < (x0.length : Int) then (if 0 ≤ x4 then (if x4 < (x3.length : Int) then (laws_toIntS.l0 k x0 (x3.set (x4 : Int).toNat (rd x0 x4)) (wrap64 (x4 + 1))) else (none)) else (none)) else (some x3)
def laws_toIntS.f (k : Nat) (l0 : List Int) : Option (List Int):=if 0 ≤ (l0.length : Int) then (if ((l0.length : Int) : Int).toNat ≤ 35184372088832 then (laws_toIntS.l0 k l0 (List.replicate ((l0.length : Int) : Int).toNat 0) 0) else (none)) else (none)
theorem laws_toIntS.mono_l : ∀ k,(∀ y0 y1 y2,LeO (laws_toIntS.l0 k y0 y1 y2) (laws_toIntS.l0 (k + 1) y0 y1 y2))
 |0 => fun _ _ _ r h => by simp [laws_toIntS.l0] at h
 |k + 1 => by
  have ih0:=laws_toIntS.mono_l k
  ·intro y0 y1 y2
   unfold laws_toIntS.l0
   repeat' first
   |(with_reducible exact ih0 _ _ _)
   |(with_reducible exact LeO.refl _)
   |(with_reducible exact LeO.none _)
   |(with_reducible refine LeO.ite ?_ ?_)
   |(with_reducible refine LeO.bind ?_ (fun _ => ?_))
theorem laws_toIntS.mono : ∀ a0 k,LeO (laws_toIntS.f k a0) (laws_toIntS.f (k + 1) a0):=by
 intro a0 k
 have ih0:=laws_toIntS.mono_l k
 unfold laws_toIntS.f
 repeat' first
   |(with_reducible exact ih0 _ _ _)
   |(with_reducible exact LeO.refl _)
   |(with_reducible exact LeO.none _)
   |(with_reducible refine LeO.ite ?_ ?_)
   |(with_reducible refine LeO.bind ?_ (fun _ => ?_))
set_option maxHeartbeats 8000000 in
set_option maxRecDepth 100000 in
theorem laws_toIntS.calls (k : Nat) (A0 : Option Addr) (c0 : Nat) (l0 : List Int) (r : List Int) (w : World) (hr0 : Kd.C (Kd.int .i64) w A0 l0.length l0) (hc0 : l0.length ≤ c0) (h : laws_toIntS.f k l0 = some r) :
  Calls Try.prog 104 #[.slice A0 l0.length c0] w fun e w' => ∃ v0_ : Value,e = .returned (v0_) ∧ Kd.R (Kd.int .i64) 3 w' w.heap.size (fun _ => True) v0_ r ∧ Below w.heap.size w w':=by
 have HR0:=zm_ hr0
 have HC0:=zm_ hc0
 clear hr0 hc0
 have HB:=zm_ (Below.refl w.heap.size w)
 have H : (if 0 ≤ (l0.length : Int) then (if ((l0.length : Int) : Int).toNat ≤ 35184372088832 then (laws_toIntS.l0 k l0 (List.replicate ((l0.length : Int) : Int).toNat 0) 0) else (none)) else (none)) = some r:=h
 clear h
 by_cases c2 : 0 ≤ (l0.length : Int)
 ·rw [if_pos c2] at H
  have c2b0:=eq_true c2
  have c2b1 : decide (0 ≤ (l0.length : Int)) = true:=decide_eq_true c2
  clear c2
  by_cases c3 : ((l0.length : Int) : Int).toNat ≤ 35184372088832
  ·rw [if_pos c3] at H
   have c3b0:=eq_true c3
   have c3b1 : decide (((l0.length : Int) : Int).toNat ≤ 35184372088832) = true:=decide_eq_true c3
   clear c3
   obtain ⟨y236,hy236⟩ : ∃ y_ : List Int,y_ = (List.replicate ((l0.length : Int) : Int).toNat 0):=⟨_,rfl⟩
   replace H : (laws_toIntS.l0 k l0 y236 0) = some r:=by first|(rw [hy236];with_reducible exact H)|(have H2_:=(Option.bind_some _ _).symm.trans H;rw [hy236];with_reducible exact H2_)|(have H2_:=(Option.bind_some _ _).symm.trans H;with_reducible exact H2_)|with_reducible exact H|(rw [hy236];exact H)|exact H
   have Ny236:=zm_ hy236
   clear hy236
   have H':=zm_ H
   clear H
   go_enter Try.func104,Try.ntmps104
   go_wp2_with (first|((with_reducible refine gate_dst (N:=7) rfl ?_);refine Kd.R_make (Kd.int .i64) _ 3 rfl (N:=7) rfl 24 _ _ rfl (l0.length : Int) rfl rfl Try.underlying24 (.int .i64 0) 8 info3 rfl (by decide) (by omega) 0 (ok:=fun _ => True) (okp:=fun _ => True) rfl (fun _ hk => hk) trivial (zo_) (Nat.le_trans (Nat.mul_le_mul_right _ (zo_ : (l0.length : Int).toNat ≤ 35184372088832)) (by omega)) (Below.refl _ _) (Nat.le_refl _) ?_;intro v237 w4 ho5 hb hg_ hnew_;clear hg_ hnew_;(first|rw [← Ny236.out] at ho5|(simp only [Int.reduceToNat] at ho5;rw [← Ny236.out] at ho5));have n0_:=zm_ (Kd.R_lower ho5 (below_size (by repeat (first|(with_reducible first|exact HB.out|apply za_|apply zn_|apply zd_)|exact HB.out))));have n1_:=zm_ (below_step (by repeat (first|(with_reducible first|exact HB.out|apply za_|apply zn_|apply zd_)|exact HB.out)) hb);clear HB;have HO238:=n0_;have HB:=n1_;clear n0_ n1_;clear hb ho5))
   go_loopg [4] k (fun kq v4 w' => ∃ (x3_1 : List Int) (x4_1 : Int),v4 = .int .i64 x4_1 ∧ Aside0 (laws_toIntS.l0 kq l0 x3_1 x4_1 = some r) ∧ Aside0 (kq ≤ k) ∧ Aside0 (Kd.R (Kd.int .i64) 3 w' w.heap.size (fun _ => True) v237 x3_1) ∧ Aside0 (Below w.heap.size w w'))
   case atStart => exact ⟨(y236),(0),(by first|rfl|(exact congrArg Value.bool (isEmpty_ne _))|(exact congrArg Value.bool (isEmpty_ne' _))|(exact congrArg Value.bool (isEmpty_eq _))|(simp;done)|(simp [*];done)),H',⟨Nat.le_refl _⟩,⟨by (with_reducible repeat (first|apply Kd.R_alloc|apply Kd.R_drewN|apply Kd.R_drew));exact HO238.out⟩,⟨by repeat (first|(with_reducible first|exact HB.out|apply za_|apply zn_|apply zd_)|exact HB.out)⟩⟩
   case round =>
    clear H'
    try clear c1
    try clear c2
    try clear c2b0
    try clear c2b1
    try clear p2
    try clear c3
    try clear c3b0
    try clear c3b1
    obtain ⟨x3_1,x4_1,rfl,HA,HK1,HO_3,HB⟩:=hrel
    cases gk with
    |zero => exact absurd HA.out (by simp [laws_toIntS.l0])
    |succ k1 =>
     have H:=HA.out
     clear HA
     simp only [laws_toIntS.l0] at H
     by_cases c6 : x4_1 < (l0.length : Int)
     ·rw [if_pos c6] at H
      have c6b0 : decide (x4_1 < (l0.length : Int)) = true:=decide_eq_true c6
      clear c6
      by_cases c7 : 0 ≤ x4_1
      ·rw [if_pos c7] at H
       have c7b0 : decide (0 ≤ x4_1) = true:=decide_eq_true c7
       clear c7
       by_cases c8 : x4_1 < (x3_1.length : Int)
       ·rw [if_pos c8] at H
        have c8b0 : decide (x4_1 < (x3_1.length : Int)) = true:=decide_eq_true c8
        clear c8
        obtain ⟨y240,hy240⟩ : ∃ y_ : List Int,y_ = (x3_1.set (x4_1 : Int).toNat (rd l0 x4_1)):=⟨_,rfl⟩
        replace H : (laws_toIntS.l0 k1 l0 y240 (wrap64 (x4_1 + 1))) = some r:=by first|(rw [hy240];with_reducible exact H)|(have H2_:=(Option.bind_some _ _).symm.trans H;rw [hy240];with_reducible exact H2_)|(have H2_:=(Option.bind_some _ _).symm.trans H;with_reducible exact H2_)|with_reducible exact H|(rw [hy240];exact H)|exact H
        have Ny240:=zm_ hy240
        clear hy240
        have H':=zm_ H
        clear H
        have p239 : 0 ≤ (x4_1 : Int):=zo_
        have q239 : x4_1 < (l0.length : Int):=zo_
        obtain ⟨ad239,e239,hx239_0⟩:=Kd.at_int HR0.out x4_1 p239 q239
        cases e239
        replace hx239_0:=(HB.out.cell (zb_ w _ hx239_0)).trans hx239_0
        replace p239:=eq_true p239
        replace q239:=eq_true q239
        have p9 : 0 ≤ (x4_1 : Int):=zo_
        have q9 : (x4_1 : Int) < ((x3_1.length : Int) : Int):=zo_
        obtain ⟨go9,co9,eo9,gb9,gl9,cl9,HG9⟩:=Kd.R_form HO_3.out (by omega)
        (first|cases eo9|(injection eo9 with ea_ en_ ec_;(first|subst ea_|(injection ea_ with ea_;subst ea_));subst ec_;clear en_))
        have GB9:=zm_ gb9
        have GG9:=zm_ HG9
        clear gb9 gl9 HG9
        obtain ⟨hx9_0,hf9_0⟩:=Kd.R_celln 0 HO_3.out (x4_1 : Int) p9 q9
        replace p9:=eq_true p9
        replace q9:=eq_true q9
        have HP10:=Kd.R_putg HO_3.out (x4_1 : Int) (rd l0 x4_1)
        go_wp2_with (first|((with_reducible refine gate_store (t:=3) (p:=20) rfl ?_);refine store_event (t:=3) (p:=20) (v:=?vo_w11) (w1:=(wr.setCell ⟨go9,(x4_1 : Int).toNat,none⟩ (.int .i64 (rd l0 x4_1)))) ?hg ?ho ?hn ?hr ?_;(case ho => rfl);(case hg => rfl);(case hn => rfl);(case hr => first|(go_simp;done)|(go_simp;rfl));intro w11 hw;have hg : wr.grownBy w11 (some go9):=(by rw [hw];exact HP10.2);have hp_ : Kd.R (Kd.int .i64) 3 w11 w.heap.size (fun _ => True) (.slice (some ⟨go9,0,none⟩) x3_1.length co9) y240:=(by rw [hw,Ny240.out];exact HP10.1);clear HP10;have n0_:=zm_ (hp_);have n1_:=zm_ ((by rw [hw];exact zs_ (HB.out) GB9.out : Below w.heap.size w w11));clear HO_3;clear HB;have HO_3:=n0_;have HB:=n1_;clear n0_ n1_;clear hg hw hp_))
        go_roundg k1
        case measure => have:=HK1.out;omega
        case rel => exact ⟨(y240),(wrap64 (x4_1 + 1)),(by first|rfl|(exact congrArg Value.bool (isEmpty_ne _))|(exact congrArg Value.bool (isEmpty_ne' _))|(exact congrArg Value.bool (isEmpty_eq _))|(simp;done)|(simp [*];done)),H',⟨by have:=HK1.out;omega⟩,⟨by (with_reducible repeat (first|apply Kd.R_alloc|apply Kd.R_drewN|apply Kd.R_drew));exact HO_3.out⟩,⟨by repeat (first|(with_reducible first|exact HB.out|apply za_|apply zn_|apply zd_)|exact HB.out)⟩⟩
       ·rw [if_neg c8] at H
        exact absurd H (by simp)
      ·rw [if_neg c7] at H
       exact absurd H (by simp)
     ·rw [if_neg c6] at H
      have c6b0 : decide (x4_1 < (l0.length : Int)) = false:=decide_eq_false c6
      clear c6
      obtain rfl:=Option.some.inj H
      go_wp2
      go_ret
      exact ⟨_,by first|rfl|(simp [errW_none,errW_some] <;> rfl)|(simp [*,errW_none,errW_some] <;> rfl),by (with_reducible repeat (first|apply Kd.R_alloc|apply Kd.R_drewN|apply Kd.R_drew));exact HO_3.out,by repeat (first|(with_reducible first|exact HB.out|apply za_|apply zn_|apply zd_)|exact HB.out)⟩
  ·rw [if_neg c3] at H
   exact absurd H (by simp)
 ·rw [if_neg c2] at H
  exact absurd H (by simp)

def laws_toExNode.f (k : Nat) (a0_0 : Int) (a0_1 : Int) (a0_2 : ByteArray) (l0_3 : List Int) : Option (Int × Int × ByteArray × List Int):=(laws_toIntS.f k l0_3).bind fun t244 => (some (a0_0,a0_1,a0_2,t244))
theorem laws_toExNode.mono : ∀ a0 a1 a2 a3 k,LeO (laws_toExNode.f k a0 a1 a2 a3) (laws_toExNode.f (k + 1) a0 a1 a2 a3):=by
 intro a0 a1 a2 a3 k
 unfold laws_toExNode.f
 repeat' first
   |(with_reducible exact laws_toIntS.mono _ _)
   |(with_reducible exact LeO.refl _)
   |(with_reducible exact LeO.none _)
   |(with_reducible refine LeO.ite ?_ ?_)
   |(with_reducible refine LeO.bind ?_ (fun _ => ?_))
set_option maxHeartbeats 8000000 in
set_option maxRecDepth 100000 in
theorem laws_toExNode.calls (k : Nat) (a0_0 : Int) (a0_1 : Int) (a0_2 : ByteArray) (A0_3 : Option Addr) (c0_3 : Nat) (l0_3 : List Int) (r1 : Int) (r2 : Int) (r3 : ByteArray) (r4 : List Int) (w : World) (hr0_3 : Kd.C (Kd.int .i64) w A0_3 l0_3.length l0_3) (hc0_3 : l0_3.length ≤ c0_3) (h : laws_toExNode.f k a0_0 a0_1 a0_2 l0_3 = some (r1,r2,r3,r4)) :
  Calls Try.prog 89 #[.agg #[.int .i64 a0_0,.int .i64 a0_1,.string a0_2,.slice A0_3 l0_3.length c0_3]] w fun e w' => ∃ v3_ : Value,e = .returned (.agg #[.int .i64 r1,.int .i64 r2,.string r3,v3_]) ∧ Kd.R (Kd.int .i64) 3 w' w.heap.size (fun _ => True) v3_ r4 ∧ Below w.heap.size w w':=by
 have hu126:=Try.underlying126
 have hu34:=Try.underlying34
 have HR0_3:=zm_ hr0_3
 have HC0_3:=zm_ hc0_3
 clear hr0_3 hc0_3
 have HB:=zm_ (Below.refl w.heap.size w)
 have H : ((laws_toIntS.f k l0_3).bind fun t244 => (some (a0_0,a0_1,a0_2,t244))) = some (r1,r2,r3,r4):=h
 clear h
 replace H:=Option.bind_eq_some_iff.mp H
 obtain ⟨t244,A20,H⟩:=H
 replace H : (some (a0_0,a0_1,a0_2,t244)) = some (r1,r2,r3,r4):=H
 have A2:=zm_ A20
 clear A20
 simp only [Option.some.injEq,Prod.mk.injEq] at H
 obtain ⟨rfl,rfl,rfl,rfl⟩:=H
 go_enter Try.func89,Try.ntmps89
 go_wp2_with (first|((with_reducible refine gate_dst (N:=1) rfl ?_);refine box_event ?hg (N:=1) ?hd (cs:=#[.int .i64 a0_0,.int .i64 a0_1,.string a0_2,.slice A0_3 l0_3.length c0_3]) (t:=126) ?hr ?_;(case hd => rfl);(case hg => rfl);(case hr => first|(go_simp;done)|(go_simp;rfl));intro gb241 hg w3 hbox hb;have n0_:=zm_ (below_step (by repeat (first|(with_reducible first|exact HB.out|apply za_|apply zn_|apply zd_)|exact HB.out)) hb);have n1_:=zm_ (hbox);have n2_:=zm_ ((by rw [hg];exact (below_size (by repeat (first|(with_reducible first|exact HB.out|apply za_|apply zn_|apply zd_)|exact HB.out))) : w.heap.size ≤ gb241));have n3_:=zm_ ((by rw [hg];exact (below_size (by repeat (first|(with_reducible first|exact HB.out|apply za_|apply zn_|apply zd_)|exact HB.out))) : w.heap.size ≤ gb241));clear HB;have HB:=n0_;have BK241:=n1_;have GW241:=n2_;have GE241:=n3_;clear n0_ n1_ n2_ n3_;clear hb hbox hg)|((with_reducible refine gate_dst (N:=2) rfl ?_);refine box_event ?hg (N:=2) ?hd (cs:=#[.int .i64 0,.int .i64 0,.string (⟨#[]⟩ : ByteArray),.slice none 0 0]) (t:=34) ?hr ?_;(case hd => rfl);(case hg => rfl);(case hr => first|(go_simp;done)|(go_simp;rfl));intro gb242 hg w4 hbox hb;have n0_:=zm_ (blk_below (g:=gb241) (o:=.cells #[.int .i64 a0_0,.int .i64 a0_1,.string a0_2,.slice A0_3 l0_3.length c0_3] 126 (0,0)) (by (with_reducible repeat first|refine zl_ ?_ _|refine zr_ ?_|refine zk_ ?_ _);exact BK241.out) hb);have n1_:=zm_ (below_step (by repeat (first|(with_reducible first|exact HB.out|apply za_|apply zn_|apply zd_|refine zs_ ?_ GE241.out)|exact HB.out)) hb);have n2_:=zm_ (hbox);have n3_:=zm_ ((by rw [hg];exact (below_size (by repeat (first|(with_reducible first|exact HB.out|apply za_|apply zn_|apply zd_|refine zs_ ?_ GE241.out)|exact HB.out))) : w.heap.size ≤ gb242));have n4_:=zm_ ((by rw [hg];exact (below_size (by repeat (first|(with_reducible first|exact HB.out|apply za_|apply zn_|apply zd_|refine zs_ ?_ GE241.out)|exact HB.out))) : w.heap.size ≤ gb242));have n5_:=zm_ ((by rw [hg];exact Nat.ne_of_lt (blk_lt (g:=gb241) (o:=.cells #[.int .i64 a0_0,.int .i64 a0_1,.string a0_2,.slice A0_3 l0_3.length c0_3] 126 (0,0)) (by (with_reducible repeat first|refine zl_ ?_ _|refine zr_ ?_|refine zk_ ?_ _);exact BK241.out)) : gb241 ≠ gb242));have n6_:=zm_ ((by rw [hg];exact Nat.ne_of_gt (blk_lt (g:=gb241) (o:=.cells #[.int .i64 a0_0,.int .i64 a0_1,.string a0_2,.slice A0_3 l0_3.length c0_3] 126 (0,0)) (by (with_reducible repeat first|refine zl_ ?_ _|refine zr_ ?_|refine zk_ ?_ _);exact BK241.out)) : gb242 ≠ gb241));clear BK241;clear HB;have BK241:=n0_;have HB:=n1_;have BK242:=n2_;have GW242:=n3_;have GE242:=n4_;have NB241_242:=n5_;have NB242_241:=n6_;clear n0_ n1_ n2_ n3_ n4_ n5_ n6_;clear hb hbox hg)|((with_reducible refine gate_dst (N:=3) rfl ?_);refine box_event ?hg (N:=3) ?hd (cs:=#[.int .i64 0,.int .i64 0,.string (⟨#[]⟩ : ByteArray),.slice none 0 0]) (t:=34) ?hr ?_;(case hd => rfl);(case hg => rfl);(case hr => first|(go_simp;done)|(go_simp;rfl));intro gb243 hg w5 hbox hb;have n0_:=zm_ (blk_below (g:=gb241) (o:=.cells #[.int .i64 a0_0,.int .i64 a0_1,.string a0_2,.slice A0_3 l0_3.length c0_3] 126 (0,0)) (by (with_reducible repeat first|refine zl_ ?_ _|refine zr_ ?_|refine zk_ ?_ _);exact BK241.out) hb);have n1_:=zm_ (blk_below (g:=gb242) (o:=.cells #[.int .i64 0,.int .i64 0,.string (⟨#[]⟩ : ByteArray),.slice none 0 0] 34 (0,0)) (by (with_reducible repeat first|refine zl_ ?_ _|refine zr_ ?_|refine zk_ ?_ _);exact BK242.out) hb);have n2_:=zm_ (below_step (by repeat (first|(with_reducible first|exact HB.out|apply za_|apply zn_|apply zd_|refine zs_ ?_ GE241.out|refine zs_ ?_ GE242.out)|exact HB.out)) hb);have n3_:=zm_ (hbox);have n4_:=zm_ ((by rw [hg];exact (below_size (by repeat (first|(with_reducible first|exact HB.out|apply za_|apply zn_|apply zd_|refine zs_ ?_ GE241.out|refine zs_ ?_ GE242.out)|exact HB.out))) : w.heap.size ≤ gb243));have n5_:=zm_ ((by rw [hg];exact (below_size (by repeat (first|(with_reducible first|exact HB.out|apply za_|apply zn_|apply zd_|refine zs_ ?_ GE241.out|refine zs_ ?_ GE242.out)|exact HB.out))) : w.heap.size ≤ gb243));have n6_:=zm_ ((by rw [hg];exact Nat.ne_of_lt (blk_lt (g:=gb241) (o:=.cells #[.int .i64 a0_0,.int .i64 a0_1,.string a0_2,.slice A0_3 l0_3.length c0_3] 126 (0,0)) (by (with_reducible repeat first|refine zl_ ?_ _|refine zr_ ?_|refine zk_ ?_ _);exact BK241.out)) : gb241 ≠ gb243));have n7_:=zm_ ((by rw [hg];exact Nat.ne_of_gt (blk_lt (g:=gb241) (o:=.cells #[.int .i64 a0_0,.int .i64 a0_1,.string a0_2,.slice A0_3 l0_3.length c0_3] 126 (0,0)) (by (with_reducible repeat first|refine zl_ ?_ _|refine zr_ ?_|refine zk_ ?_ _);exact BK241.out)) : gb243 ≠ gb241));have n8_:=zm_ ((by rw [hg];exact Nat.ne_of_lt (blk_lt (g:=gb242) (o:=.cells #[.int .i64 0,.int .i64 0,.string (⟨#[]⟩ : ByteArray),.slice none 0 0] 34 (0,0)) (by (with_reducible repeat first|refine zl_ ?_ _|refine zr_ ?_|refine zk_ ?_ _);exact BK242.out)) : gb242 ≠ gb243));have n9_:=zm_ ((by rw [hg];exact Nat.ne_of_gt (blk_lt (g:=gb242) (o:=.cells #[.int .i64 0,.int .i64 0,.string (⟨#[]⟩ : ByteArray),.slice none 0 0] 34 (0,0)) (by (with_reducible repeat first|refine zl_ ?_ _|refine zr_ ?_|refine zk_ ?_ _);exact BK242.out)) : gb243 ≠ gb242));clear BK241;clear BK242;clear HB;have BK241:=n0_;have BK242:=n1_;have HB:=n2_;have BK243:=n3_;have GW243:=n4_;have GE243:=n5_;have NB241_243:=n6_;have NB243_241:=n7_;have NB242_243:=n8_;have NB243_242:=n9_;clear n0_ n1_ n2_ n3_ n4_ n5_ n6_ n7_ n8_ n9_;clear hb hbox hg;have hnb6:=NB241_242.out;have hnc6:=NB242_241.out;have hnb7:=NB241_243.out;have hnc7:=NB243_241.out;have hcz8_0 : w5.cell? ⟨gb241,0,none⟩ = some (.int .i64 a0_0):=(zc_ BK241.out 0).trans rfl;have hcz8_1 : w5.cell? ⟨gb241,1,none⟩ = some (.int .i64 a0_1):=(zc_ BK241.out 1).trans rfl;have hcz8_2 : w5.cell? ⟨gb241,2,none⟩ = some (.string a0_2):=(zc_ BK241.out 2).trans rfl;have hcz8_3 : w5.cell? ⟨gb241,3,none⟩ = some (.slice A0_3 l0_3.length c0_3):=(zc_ BK241.out 3).trans rfl;have hfz8_0:=zf_ BK241.out 0;have hfz8_1:=zf_ BK241.out 1;have hfz8_2:=zf_ BK241.out 2;have hfz8_3:=zf_ BK241.out 3;have hnb9:=NB243_242.out;have hnc9:=NB242_243.out;have hcz10_0 : w5.cell? ⟨gb243,0,none⟩ = some (.int .i64 0):=(zc_ BK243.out 0).trans rfl;have hcz10_1 : w5.cell? ⟨gb243,1,none⟩ = some (.int .i64 0):=(zc_ BK243.out 1).trans rfl;have hcz10_2 : w5.cell? ⟨gb243,2,none⟩ = some (.string (⟨#[]⟩ : ByteArray)):=(zc_ BK243.out 2).trans rfl;have hcz10_3 : w5.cell? ⟨gb243,3,none⟩ = some (.slice none 0 0):=(zc_ BK243.out 3).trans rfl;have hfz10_0:=zf_ BK243.out 0;have hfz10_1:=zf_ BK243.out 1;have hfz10_2:=zf_ BK243.out 2;have hfz10_3:=zf_ BK243.out 3)|((with_reducible refine gate_callee (f:=104) rfl ?_);refine goesL_ (some 15) rfl rfl Try.func104 (by kernel_rfl) rfl #[.slice A0_3 l0_3.length c0_3] rfl (by (try simp only [List.map_toArray,List.map_cons,List.map_nil]);first|done|rfl|(simp only [List.length_drop,List.length_take];rfl)) ?_;(with_reducible refine (laws_toIntS.calls k _ _ l0_3 t244 _ ?side1 ?side2 A2.out).mono ?_);(case side1 => exact Kd.C_below HR0_3.out (by repeat (first|(with_reducible first|exact HB.out|apply za_|apply zn_|apply zd_|refine zs_ ?_ GE241.out|refine zs_ ?_ GE242.out|refine zs_ ?_ GE243.out)|exact HB.out)));(case side2 => exact HC0_3.out);rintro e w11 ⟨v245,rfl,ho0,hb⟩;refine ⟨_,rfl,?_⟩;have n0_:=zm_ (Kd.R_lower ho0 (below_size (by repeat (first|(with_reducible first|exact HB.out|apply za_|apply zn_|apply zd_|refine zs_ ?_ GE241.out|refine zs_ ?_ GE242.out|refine zs_ ?_ GE243.out)|exact HB.out))));have n1_:=zm_ (blk_below (g:=gb241) (o:=.cells #[.int .i64 a0_0,.int .i64 a0_1,.string a0_2,.slice A0_3 l0_3.length c0_3] 126 (0,0)) (by (with_reducible repeat first|refine zl_ ?_ _|refine zr_ ?_|refine zk_ ?_ _);refine blk_far ?_ NB241_243.out _;(with_reducible repeat first|refine zl_ ?_ _|refine zr_ ?_|refine zk_ ?_ _);refine blk_far ?_ NB241_243.out _;(with_reducible repeat first|refine zl_ ?_ _|refine zr_ ?_|refine zk_ ?_ _);refine blk_far ?_ NB241_243.out _;(with_reducible repeat first|refine zl_ ?_ _|refine zr_ ?_|refine zk_ ?_ _);exact BK241.out) hb);have n2_:=zm_ (blk_below (g:=gb242) (o:=.cells #[.int .i64 0,.int .i64 0,.string (⟨#[]⟩ : ByteArray),.slice none 0 0] 34 (0,0)) (by (with_reducible repeat first|refine zl_ ?_ _|refine zr_ ?_|refine zk_ ?_ _);refine blk_far ?_ NB242_243.out _;(with_reducible repeat first|refine zl_ ?_ _|refine zr_ ?_|refine zk_ ?_ _);refine blk_far ?_ NB242_243.out _;(with_reducible repeat first|refine zl_ ?_ _|refine zr_ ?_|refine zk_ ?_ _);refine blk_far ?_ NB242_243.out _;(with_reducible repeat first|refine zl_ ?_ _|refine zr_ ?_|refine zk_ ?_ _);exact BK242.out) hb);have n3_:=zm_ (blk_below (g:=gb243) (o:=.cells #[.int .i64 a0_0,.int .i64 a0_1,.string a0_2,.slice none 0 0] 34 (0,0)) (by (with_reducible repeat first|refine zl_ ?_ _|refine zr_ ?_|refine zk_ ?_ _);refine blk_put (cs:=#[.int .i64 a0_0,.int .i64 a0_1,.string (⟨#[]⟩ : ByteArray),.slice none 0 0]) ?_ 2 _ rfl;(with_reducible repeat first|refine zl_ ?_ _|refine zr_ ?_|refine zk_ ?_ _);refine blk_put (cs:=#[.int .i64 a0_0,.int .i64 0,.string (⟨#[]⟩ : ByteArray),.slice none 0 0]) ?_ 1 _ rfl;(with_reducible repeat first|refine zl_ ?_ _|refine zr_ ?_|refine zk_ ?_ _);refine blk_put (cs:=#[.int .i64 0,.int .i64 0,.string (⟨#[]⟩ : ByteArray),.slice none 0 0]) ?_ 0 _ rfl;(with_reducible repeat first|refine zl_ ?_ _|refine zr_ ?_|refine zk_ ?_ _);exact BK243.out) hb);have n4_:=zm_ (below_step (by repeat (first|(with_reducible first|exact HB.out|apply za_|apply zn_|apply zd_|refine zs_ ?_ GE241.out|refine zs_ ?_ GE242.out|refine zs_ ?_ GE243.out)|exact HB.out)) hb);clear BK241;clear BK242;clear BK243;clear HB;have HO246:=n0_;have BK241:=n1_;have BK242:=n2_;have BK243:=n3_;have HB:=n4_;clear n0_ n1_ n2_ n3_ n4_;(try clear hb);(try clear hb2);(try clear hk);(try clear hi);(try clear ho0);obtain ⟨Ao12,co12,eo12⟩:=Kd.R_slice HO246.out;subst eo12;have hcz13_0 : w11.cell? ⟨gb243,0,none⟩ = some (.int .i64 a0_0):=(zc_ BK243.out 0).trans rfl;have hcz13_1 : w11.cell? ⟨gb243,1,none⟩ = some (.int .i64 a0_1):=(zc_ BK243.out 1).trans rfl;have hcz13_2 : w11.cell? ⟨gb243,2,none⟩ = some (.string a0_2):=(zc_ BK243.out 2).trans rfl;have hcz13_3 : w11.cell? ⟨gb243,3,none⟩ = some (.slice none 0 0):=(zc_ BK243.out 3).trans rfl;have hfz13_0:=zf_ BK243.out 0;have hfz13_1:=zf_ BK243.out 1;have hfz13_2:=zf_ BK243.out 2;have hfz13_3:=zf_ BK243.out 3;have hcz14_0 : w11.cell? ⟨gb242,0,none⟩ = some (.int .i64 0):=(zc_ BK242.out 0).trans rfl;have hcz14_1 : w11.cell? ⟨gb242,1,none⟩ = some (.int .i64 0):=(zc_ BK242.out 1).trans rfl;have hcz14_2 : w11.cell? ⟨gb242,2,none⟩ = some (.string (⟨#[]⟩ : ByteArray)):=(zc_ BK242.out 2).trans rfl;have hcz14_3 : w11.cell? ⟨gb242,3,none⟩ = some (.slice none 0 0):=(zc_ BK242.out 3).trans rfl;have hfz14_0:=zf_ BK242.out 0;have hfz14_1:=zf_ BK242.out 1;have hfz14_2:=zf_ BK242.out 2;have hfz14_3:=zf_ BK242.out 3))
 refine bodyPost_ret (results_cell_row rfl _ _ gb242 34 #[.int .i64 a0_0,.int .i64 a0_1,.string a0_2,.slice Ao12 t244.length co12] (0,0) _ rfl (by (with_reducible repeat first|refine zl_ ?_ _|refine zr_ ?_|refine zk_ ?_ _);refine blk_put (cs:=#[.int .i64 a0_0,.int .i64 a0_1,.string a0_2,.slice none 0 0]) ?_ 3 _ rfl;(with_reducible repeat first|refine zl_ ?_ _|refine zr_ ?_|refine zk_ ?_ _);refine blk_put (cs:=#[.int .i64 a0_0,.int .i64 a0_1,.string (⟨#[]⟩ : ByteArray),.slice none 0 0]) ?_ 2 _ rfl;(with_reducible repeat first|refine zl_ ?_ _|refine zr_ ?_|refine zk_ ?_ _);refine blk_put (cs:=#[.int .i64 a0_0,.int .i64 0,.string (⟨#[]⟩ : ByteArray),.slice none 0 0]) ?_ 1 _ rfl;(with_reducible repeat first|refine zl_ ?_ _|refine zr_ ?_|refine zk_ ?_ _);refine blk_put (cs:=#[.int .i64 0,.int .i64 0,.string (⟨#[]⟩ : ByteArray),.slice none 0 0]) ?_ 0 _ rfl;(with_reducible repeat first|refine zl_ ?_ _|refine zr_ ?_|refine zk_ ?_ _);refine blk_far ?_ NB242_243.out _;(with_reducible repeat first|refine zl_ ?_ _|refine zr_ ?_|refine zk_ ?_ _);exact BK242.out) Try.underlying34 rfl (by kernel_rfl)) rfl ?_
 exact ⟨_,by first|rfl|(simp [errW_none,errW_some] <;> rfl)|(simp [*,errW_none,errW_some] <;> rfl),by (with_reducible repeat (first|apply Kd.R_alloc|apply Kd.R_drewN|apply Kd.R_drew));exact Kd.R_mono (Kd.R_far (p:=⟨gb242,3,none⟩) (Kd.R_far (p:=⟨gb242,2,none⟩) (Kd.R_far (p:=⟨gb242,1,none⟩) (Kd.R_far (p:=⟨gb242,0,none⟩) (Kd.R_far (p:=⟨gb243,3,none⟩) (Kd.R_types (Kd.R_types HO246.out BK243.out (by decide)) BK242.out (by decide)) (fun _ hk => hk.1.2) (.slice Ao12 t244.length co12)) (fun _ hk => hk.2) (.int .i64 a0_0)) (fun _ hk => hk.2) (.int .i64 a0_1)) (fun _ hk => hk.2) (.string a0_2)) (fun _ hk => hk.2) (.slice Ao12 t244.length co12)) (fun _ hk => trivial),by repeat (first|(with_reducible first|exact HB.out|apply za_|apply zn_|apply zd_|refine zs_ ?_ GE241.out|refine zs_ ?_ GE242.out|refine zs_ ?_ GE243.out)|exact HB.out)⟩

def laws_toExNodeS.l0 : Nat → List (S126) → List (S34) → Int → Option ((List (S34)))
 |0,_,_,_ => none
 |k + 1,x0,x3,x4 => if x4 < (x0.length : Int) then (if 0 ≤ x4 then ((laws_toExNode.f k ((rd_T126 x0 x4).f0) ((rd_T126 x0 x4).f1) ((rd_T126 x0 x4).f2) ((rd_T126 x0 x4).f3)).bind fun bt251 => (if x4 < (x3.length : Int) then (laws_toExNodeS.l0 k x0 (x3.set (x4 : Int).toNat (⟨bt251.1,bt251.2.1,bt251.2.2.1,bt251.2.2.2⟩ : S34)) (wrap64 (x4 + 1))) else (none))) else (none)) else (some x3)
def laws_toExNodeS.f (k : Nat) (l0 : List (S126)) : Option ((List (S34))):=if 0 ≤ (l0.length : Int) then (if ((l0.length : Int) : Int).toNat ≤ 5026338869833 then (laws_toExNodeS.l0 k l0 (List.replicate ((l0.length : Int) : Int).toNat z34) 0) else (none)) else (none)
theorem laws_toExNodeS.mono_l : ∀ k,(∀ y0 y1 y2,LeO (laws_toExNodeS.l0 k y0 y1 y2) (laws_toExNodeS.l0 (k + 1) y0 y1 y2))
 |0 => fun _ _ _ r h => by simp [laws_toExNodeS.l0] at h
 |k + 1 => by
  have ih0:=laws_toExNodeS.mono_l k
  ·intro y0 y1 y2
   unfold laws_toExNodeS.l0
   repeat' first
   |(with_reducible exact ih0 _ _ _)
   |(with_reducible exact laws_toExNode.mono _ _ _ _ _)
   |(with_reducible exact LeO.refl _)
   |(with_reducible exact LeO.none _)
   |(with_reducible refine LeO.ite ?_ ?_)
   |(with_reducible refine LeO.bind ?_ (fun _ => ?_))
theorem laws_toExNodeS.mono : ∀ a0 k,LeO (laws_toExNodeS.f k a0) (laws_toExNodeS.f (k + 1) a0):=by
 intro a0 k
 have ih0:=laws_toExNodeS.mono_l k
 unfold laws_toExNodeS.f
 repeat' first
   |(with_reducible exact ih0 _ _ _)
   |(with_reducible exact laws_toExNode.mono _ _ _ _ _)
   |(with_reducible exact LeO.refl _)
   |(with_reducible exact LeO.none _)
   |(with_reducible refine LeO.ite ?_ ?_)
   |(with_reducible refine LeO.bind ?_ (fun _ => ?_))
set_option maxHeartbeats 8000000 in
set_option maxRecDepth 100000 in
theorem laws_toExNodeS.calls (k : Nat) (A0 : Option Addr) (c0 : Nat) (l0 : List (S126)) (r : List (S34)) (w : World) (hr0 : Kd.C k126 w A0 l0.length l0) (hc0 : l0.length ≤ c0) (h : laws_toExNodeS.f k l0 = some r) :
  Calls Try.prog 65 #[.slice A0 l0.length c0] w fun e w' => ∃ v0_ : Value,e = .returned (v0_) ∧ Kd.S k34 34 w' w.heap.size (fun _ => True) v0_ r ∧ Below w.heap.size w w':=by
 have hu126:=Try.underlying126
 have hu34:=Try.underlying34
 have HR0:=zm_ hr0
 have HC0:=zm_ hc0
 clear hr0 hc0
 have HB:=zm_ (Below.refl w.heap.size w)
 have H : (if 0 ≤ (l0.length : Int) then (if ((l0.length : Int) : Int).toNat ≤ 5026338869833 then (laws_toExNodeS.l0 k l0 (List.replicate ((l0.length : Int) : Int).toNat z34) 0) else (none)) else (none)) = some r:=h
 clear h
 by_cases c2 : 0 ≤ (l0.length : Int)
 ·rw [if_pos c2] at H
  have c2b0:=eq_true c2
  have c2b1 : decide (0 ≤ (l0.length : Int)) = true:=decide_eq_true c2
  clear c2
  by_cases c3 : ((l0.length : Int) : Int).toNat ≤ 5026338869833
  ·rw [if_pos c3] at H
   have c3b0:=eq_true c3
   have c3b1 : decide (((l0.length : Int) : Int).toNat ≤ 5026338869833) = true:=decide_eq_true c3
   clear c3
   obtain ⟨y247,hy247⟩ : ∃ y_ : List (S34),y_ = (List.replicate ((l0.length : Int) : Int).toNat z34):=⟨_,rfl⟩
   replace H : (laws_toExNodeS.l0 k l0 y247 0) = some r:=by first|(rw [hy247];with_reducible exact H)|(have H2_:=(Option.bind_some _ _).symm.trans H;rw [hy247];with_reducible exact H2_)|(have H2_:=(Option.bind_some _ _).symm.trans H;with_reducible exact H2_)|with_reducible exact H|(rw [hy247];exact H)|exact H
   have Ny247:=zm_ hy247
   clear hy247
   have H':=zm_ H
   clear H
   go_enter Try.func65,Try.ntmps65
   go_wp2_with (first|((with_reducible refine gate_dst (N:=7) rfl ?_);refine Kd.S_make k34 _ 34 rfl (N:=7) rfl 26 _ _ rfl (l0.length : Int) rfl rfl Try.underlying26 (.agg #[(.int .i64 0),(.int .i64 0),(.string ⟨#[]⟩),(.slice none 0 0)]) 56 info34 rfl (by decide) (by omega) z34 (ok:=fun _ => True) (okp:=fun _ => True) (k34_mkM _ _ _ z34 (Kd.R_nil _ _ _ _ _)) (fun _ hk => hk) trivial (zo_) (Nat.le_trans (Nat.mul_le_mul_right _ (zo_ : (l0.length : Int).toNat ≤ 5026338869833)) (by omega)) (Below.refl _ _) (Nat.le_refl _) ?_;intro v248 w4 ho5 hb hg_ hnew_;clear hg_ hnew_;(first|rw [← Ny247.out] at ho5|(simp only [Int.reduceToNat] at ho5;rw [← Ny247.out] at ho5));have n0_:=zm_ (Kd.S_lower ho5 (below_size (by repeat (first|(with_reducible first|exact HB.out|apply za_|apply zn_|apply zd_)|exact HB.out))));have n1_:=zm_ (below_step (by repeat (first|(with_reducible first|exact HB.out|apply za_|apply zn_|apply zd_)|exact HB.out)) hb);clear HB;have HO249:=n0_;have HB:=n1_;clear n0_ n1_;clear hb ho5))
   go_loopg [4] k (fun kq v4 w' => ∃ (x3_1 : List (S34)) (x4_1 : Int),v4 = .int .i64 x4_1 ∧ Aside0 (laws_toExNodeS.l0 kq l0 x3_1 x4_1 = some r) ∧ Aside0 (kq ≤ k) ∧ Aside0 (Kd.S k34 34 w' w.heap.size (fun _ => True) v248 x3_1) ∧ Aside0 (Below w.heap.size w w'))
   case atStart => exact ⟨(y247),(0),(by first|rfl|(exact congrArg Value.bool (isEmpty_ne _))|(exact congrArg Value.bool (isEmpty_ne' _))|(exact congrArg Value.bool (isEmpty_eq _))|(simp;done)|(simp [*];done)),H',⟨Nat.le_refl _⟩,⟨by (with_reducible repeat (first|apply Kd.S_alloc|apply Kd.S_drewN|apply Kd.S_drew));exact HO249.out⟩,⟨by repeat (first|(with_reducible first|exact HB.out|apply za_|apply zn_|apply zd_)|exact HB.out)⟩⟩
   case round =>
    clear H'
    try clear c2
    try clear c2b0
    try clear c2b1
    try clear p2
    try clear c3
    try clear c3b0
    try clear c3b1
    obtain ⟨x3_1,x4_1,rfl,HA,HK1,HO_3,HB⟩:=hrel
    cases gk with
    |zero => exact absurd HA.out (by simp [laws_toExNodeS.l0])
    |succ k1 =>
     have H:=HA.out
     clear HA
     simp only [laws_toExNodeS.l0] at H
     by_cases c6 : x4_1 < (l0.length : Int)
     ·rw [if_pos c6] at H
      have c6b0 : decide (x4_1 < (l0.length : Int)) = true:=decide_eq_true c6
      clear c6
      by_cases c7 : 0 ≤ x4_1
      ·rw [if_pos c7] at H
       have c7b0 : decide (0 ≤ x4_1) = true:=decide_eq_true c7
       clear c7
       replace H:=Option.bind_eq_some_iff.mp H
       obtain ⟨⟨t251,t252,t253,t254⟩,A80,H⟩:=H
       replace H : (if x4_1 < (x3_1.length : Int) then (laws_toExNodeS.l0 k1 l0 (x3_1.set (x4_1 : Int).toNat (⟨t251,t252,t253,t254⟩ : S34)) (wrap64 (x4_1 + 1))) else (none)) = some r:=H
       have A8:=zm_ A80
       clear A80
       by_cases c9 : x4_1 < (x3_1.length : Int)
       ·rw [if_pos c9] at H
        have c9b0 : decide (x4_1 < (x3_1.length : Int)) = true:=decide_eq_true c9
        clear c9
        obtain ⟨y257,hy257⟩ : ∃ y_ : List (S34),y_ = (x3_1.set (x4_1 : Int).toNat (⟨t251,t252,t253,t254⟩ : S34)):=⟨_,rfl⟩
        replace H : (laws_toExNodeS.l0 k1 l0 y257 (wrap64 (x4_1 + 1))) = some r:=by first|(rw [hy257];with_reducible exact H)|(have H2_:=(Option.bind_some _ _).symm.trans H;rw [hy257];with_reducible exact H2_)|(have H2_:=(Option.bind_some _ _).symm.trans H;with_reducible exact H2_)|with_reducible exact H|(rw [hy257];exact H)|exact H
        have Ny257:=zm_ hy257
        clear hy257
        have H':=zm_ H
        clear H
        have p250 : 0 ≤ (x4_1 : Int):=zo_
        have q250 : x4_1 < (l0.length : Int):=zo_
        obtain ⟨ad250,A250_3,c250_3,e250,hx250_0,hx250_1,hx250_2,hx250_3,hl250_3,hi250_3⟩:=at_T126 HR0.out x4_1 p250 q250
        cases e250
        replace hx250_0:=(HB.out.cell (zb_ w _ hx250_0)).trans hx250_0
        replace hx250_1:=(HB.out.cell (zb_ w _ hx250_1)).trans hx250_1
        replace hx250_2:=(HB.out.cell (zb_ w _ hx250_2)).trans hx250_2
        replace hx250_3:=(HB.out.cell (zb_ w _ hx250_3)).trans hx250_3
        have HR250_3:=zm_ hi250_3
        have HC250_3:=zm_ hl250_3
        clear hi250_3 hl250_3
        replace p250:=eq_true p250
        replace q250:=eq_true q250
        go_wp2_with (first|((with_reducible refine gate_callee (f:=89) rfl ?_);refine goesL_ (some 20) rfl rfl Try.func89 (by kernel_rfl) rfl #[.agg #[.int .i64 ((rd_T126 l0 x4_1).f0),.int .i64 ((rd_T126 l0 x4_1).f1),.string ((rd_T126 l0 x4_1).f2),.slice A250_3 ((rd_T126 l0 x4_1).f3).length c250_3]] rfl (by (try simp only [List.map_toArray,List.map_cons,List.map_nil]);first|done|rfl|(simp only [List.length_drop,List.length_take];rfl)) ?_;(with_reducible refine (laws_toExNode.calls k1 ((rd_T126 l0 x4_1).f0) ((rd_T126 l0 x4_1).f1) ((rd_T126 l0 x4_1).f2) _ _ ((rd_T126 l0 x4_1).f3) t251 t252 t253 t254 _ ?side1 ?side2 A8.out).mono ?_);(case side1 => repeat (first|exact (Kd.C_below HR250_3.out HB.out)|(with_reducible refine Kd.C_alloc ?_ _)|(with_reducible refine Kd.C_drewN ?_ _)|(with_reducible refine Kd.C_drew ?_)));(case side2 => exact HC250_3.out);rintro e w11 ⟨v255,rfl,ho0,hb⟩;refine ⟨_,rfl,?_⟩;have n0_:=zm_ (Kd.S_elder' (by (with_reducible repeat (first|apply Kd.S_alloc|apply Kd.S_drewN|apply Kd.S_drew));exact HO_3.out) (Kd.R_base ho0) hb);have n1_:=zm_ (Kd.R_lower ho0 (below_size (by repeat (first|(with_reducible first|exact HB.out|apply za_|apply zn_|apply zd_)|exact HB.out))));have n2_:=zm_ (below_step (by repeat (first|(with_reducible first|exact HB.out|apply za_|apply zn_|apply zd_)|exact HB.out)) hb);clear HO_3;clear HB;have HO_3:=n0_;have HO256:=n1_;have HB:=n2_;clear n0_ n1_ n2_;(try clear hb);(try clear hb2);(try clear hk);(try clear hi);(try clear ho0);have p10 : 0 ≤ (x4_1 : Int):=zo_;have q10 : (x4_1 : Int) < ((x3_1.length : Int) : Int):=zo_;obtain ⟨go10,co10,eo10,gb10,gl10,cl10,HG10⟩:=Kd.S_form HO_3.out (by omega);(first|cases eo10|(injection eo10 with ea_ en_ ec_;(first|subst ea_|(injection ea_ with ea_;subst ea_));subst ec_;clear en_));have GB10:=zm_ gb10;have GG10:=zm_ HG10;clear gb10 gl10 HG10;obtain ⟨_,ce10,hcl10,hM10,hcc10,hfr10,_,_⟩:=Kd.S_elem HO_3.out z34 (x4_1 : Int) p10 q10;obtain ⟨ve10_3,rfl,ge10_3⟩:=k34_openM hM10;have hx10_0 : w11.cell? ⟨go10,(x4_1 : Int).toNat * 4,none⟩ = some (.int .i64 ((rd_T34 x3_1 x4_1).f0)):=hcc10 0 _ rfl;have hx10_1 : w11.cell? ⟨go10,(x4_1 : Int).toNat * 4 + 1,none⟩ = some (.int .i64 ((rd_T34 x3_1 x4_1).f1)):=hcc10 1 _ rfl;have hx10_2 : w11.cell? ⟨go10,(x4_1 : Int).toNat * 4 + 2,none⟩ = some (.string ((rd_T34 x3_1 x4_1).f2)):=hcc10 2 _ rfl;have hx10_3 : w11.cell? ⟨go10,(x4_1 : Int).toNat * 4 + 3,none⟩ = some (ve10_3):=hcc10 3 _ rfl;have hf10_0 : w11.frozen? ⟨go10,(x4_1 : Int).toNat * 4,none⟩ = false:=hfr10 0;have hf10_1 : w11.frozen? ⟨go10,(x4_1 : Int).toNat * 4 + 1,none⟩ = false:=hfr10 1;have hf10_2 : w11.frozen? ⟨go10,(x4_1 : Int).toNat * 4 + 2,none⟩ = false:=hfr10 2;have hf10_3 : w11.frozen? ⟨go10,(x4_1 : Int).toNat * 4 + 3,none⟩ = false:=hfr10 3;clear hcl10 hcc10 hfr10 hM10;replace p10:=eq_true p10;replace q10:=eq_true q10;have n_:=zm_ (Kd.S_mono (ok':=(fun k_ => some k_ ≠ (v255 : Value).ownBlock)) HO_3.out (fun k_ hk => hk.2));clear HO_3;have HO_3:=n_;clear n_;have HX12:=zm_ (show Kd.S k34 34 w11 w.heap.size (fun k_ => ((fun _ => True)) k_ ∧ ¬ ((fun k_ => some k_ = (v255 : Value).ownBlock)) k_) (.slice (some ⟨go10,0,none⟩) x3_1.length co10) x3_1 from (by (with_reducible repeat (first|apply Kd.S_alloc|apply Kd.S_drewN|apply Kd.S_drew));exact Kd.S_mono HO_3.out (fun k_ hk => ⟨trivial,fun e_ => hk e_⟩)));obtain ⟨oki12,ce12,hcl12,hM12,hcc12,hfr12,hoki12,hH12⟩:=Kd.S_elem HX12.out z34 (x4_1 : Int) (zo_) (by have h_ : (x4_1 : Int) < ((x3_1.length : Int) : Int):=zo_;first|exact h_|(have e_:=(Kd.S_reads' HO_3.out).1;omega)|simpa using h_);obtain ⟨ve12_3,rfl,ge12_3⟩:=k34_openM hM12;have HP12:=Kd.S_seg hH12 (zo_) (by have h_ : (x4_1 : Int) < ((x3_1.length : Int) : Int):=zo_;first|exact h_|(have e_:=(Kd.S_reads' HO_3.out).1;omega)|simpa using h_) (seg:=[.int .i64 t251,.int .i64 t252,.string t253,v255]) (j:=0) (show 4 ≤ 4 from by decide) (x':=(⟨t251,t252,t253,t254⟩ : S34)) (k34_mkM _ _ _ (⟨t251,t252,t253,t254⟩ : S34) (Kd.R_mono (Kd.R_tight rfl (Kd.R_mono (ok':=fun k_ => ((fun _ => True)) k_ ∧ k_ ≠ go10) (Kd.R_apart' (HO256.out) (Kd.S_typed HO_3.out) (by decide)) (fun k_ hk => ⟨trivial,fun e_ => (hk.2) (by rw [e_];rfl)⟩))) (fun _ h_ => Or.inr (h_)))) (fun _ hk => hk) (fun k_ hk_ => ((Kd.R_mono (ok':=fun k_ => ((fun _ => True)) k_ ∧ k_ ≠ go10) (Kd.R_apart' (HO256.out) (Kd.S_typed HO_3.out) (by decide)) (fun k_ hk => ⟨trivial,fun e_ => (hk.2) (by rw [e_];rfl)⟩))).1 k_ hk_.symm);have hx12_0:=hcc12 0 _ rfl;(try simp only [show (k34).sz = 4 from rfl,Nat.mul_one,Nat.add_zero] at hx12_0);have hf12_0:=hfr12 0;(try simp only [show (k34).sz = 4 from rfl,Nat.mul_one,Nat.add_zero] at hf12_0);have hx12_1:=hcc12 1 _ rfl;(try simp only [show (k34).sz = 4 from rfl,Nat.mul_one,Nat.add_zero] at hx12_1);have hf12_1:=hfr12 1;(try simp only [show (k34).sz = 4 from rfl,Nat.mul_one,Nat.add_zero] at hf12_1);have hx12_2:=hcc12 2 _ rfl;(try simp only [show (k34).sz = 4 from rfl,Nat.mul_one,Nat.add_zero] at hx12_2);have hf12_2:=hfr12 2;(try simp only [show (k34).sz = 4 from rfl,Nat.mul_one,Nat.add_zero] at hf12_2);have hx12_3:=hcc12 3 _ rfl;(try simp only [show (k34).sz = 4 from rfl,Nat.mul_one,Nat.add_zero] at hx12_3);have hf12_3:=hfr12 3;(try simp only [show (k34).sz = 4 from rfl,Nat.mul_one,Nat.add_zero] at hf12_3);clear hcl12 hcc12 hfr12 hM12 hoki12 hH12)|((with_reducible refine gate_store (t:=34) (p:=21) rfl ?_);have st3_:=store_own (P:=Try.prog) HO256.out;refine store_event (t:=34) (p:=21) (v:=?vo_w13) (w1:=((((w11.setCell ⟨go10,(x4_1 : Int).toNat * 4,none⟩ (.int .i64 t251)).setCell ⟨go10,(x4_1 : Int).toNat * 4 + 1,none⟩ (.int .i64 t252)).setCell ⟨go10,(x4_1 : Int).toNat * 4 + 2,none⟩ (.string t253)).setCell ⟨go10,(x4_1 : Int).toNat * 4 + 3,none⟩ (v255))) ?hg ?ho ?hn ?hr ?_;(case ho => rfl);(case hg => rfl);(case hn => rfl);(case hr => first|(go_simp;done)|(go_simp;rfl));intro w13 hw;have hg : w11.grownBy w13 (some go10):=(by rw [hw];exact HP12.2);have hp_ : Kd.S k34 34 w13 w.heap.size (fun _ => True) (.slice (some ⟨go10,0,none⟩) x3_1.length co10) y257:=(by rw [hw,Ny257.out];exact HP12.1);clear HP12;have n0_:=zm_ (hp_);have n1_:=zm_ ((by rw [hw];exact zs_ (zs_ (zs_ (zs_ (HB.out) GB10.out) GB10.out) GB10.out) GB10.out : Below w.heap.size w w13));clear HO_3;clear HB;clear HO256;have HO_3:=n0_;have HB:=n1_;clear n0_ n1_;clear hg hw hp_))
        go_roundg k1
        case measure => have:=HK1.out;omega
        case rel => exact ⟨(y257),(wrap64 (x4_1 + 1)),(by first|rfl|(exact congrArg Value.bool (isEmpty_ne _))|(exact congrArg Value.bool (isEmpty_ne' _))|(exact congrArg Value.bool (isEmpty_eq _))|(simp;done)|(simp [*];done)),H',⟨by have:=HK1.out;omega⟩,⟨by (with_reducible repeat (first|apply Kd.S_alloc|apply Kd.S_drewN|apply Kd.S_drew));exact HO_3.out⟩,⟨by repeat (first|(with_reducible first|exact HB.out|apply za_|apply zn_|apply zd_)|exact HB.out)⟩⟩
       ·rw [if_neg c9] at H
        exact absurd H (by simp)
      ·rw [if_neg c7] at H
       exact absurd H (by simp)
     ·rw [if_neg c6] at H
      have c6b0 : decide (x4_1 < (l0.length : Int)) = false:=decide_eq_false c6
      clear c6
      obtain rfl:=Option.some.inj H
      go_wp2
      go_ret
      exact ⟨_,by first|rfl|(simp [errW_none,errW_some] <;> rfl)|(simp [*,errW_none,errW_some] <;> rfl),by (with_reducible repeat (first|apply Kd.S_alloc|apply Kd.S_drewN|apply Kd.S_drew));exact HO_3.out,by repeat (first|(with_reducible first|exact HB.out|apply za_|apply zn_|apply zd_)|exact HB.out)⟩
  ·rw [if_neg c3] at H
   exact absurd H (by simp)
 ·rw [if_neg c2] at H
  exact absurd H (by simp)

def laws_toExpr.f (k : Nat) (l0_0 : List (S126)) : Option ((List (S34))):=(laws_toExNodeS.f k l0_0).bind fun t261 => (some t261)
theorem laws_toExpr.mono : ∀ a0 k,LeO (laws_toExpr.f k a0) (laws_toExpr.f (k + 1) a0):=by
 intro a0 k
 unfold laws_toExpr.f
 repeat' first
   |(with_reducible exact laws_toExNodeS.mono _ _)
   |(with_reducible exact LeO.refl _)
   |(with_reducible exact LeO.none _)
   |(with_reducible refine LeO.ite ?_ ?_)
   |(with_reducible refine LeO.bind ?_ (fun _ => ?_))
set_option maxHeartbeats 8000000 in
set_option maxRecDepth 100000 in
theorem laws_toExpr.calls (k : Nat) (A0_0 : Option Addr) (c0_0 : Nat) (l0_0 : List (S126)) (r : List (S34)) (w : World) (hr0_0 : Kd.C k126 w A0_0 l0_0.length l0_0) (hc0_0 : l0_0.length ≤ c0_0) (h : laws_toExpr.f k l0_0 = some r) :
  Calls Try.prog 27 #[.agg #[.slice A0_0 l0_0.length c0_0]] w fun e w' => ∃ v0_ : Value,e = .returned (.agg #[v0_]) ∧ Kd.S k34 34 w' w.heap.size (fun _ => True) v0_ r ∧ Below w.heap.size w w':=by
 have hu52:=Try.underlying52
 have hu28:=Try.underlying28
 have HR0_0:=zm_ hr0_0
 have HC0_0:=zm_ hc0_0
 clear hr0_0 hc0_0
 have HB:=zm_ (Below.refl w.heap.size w)
 have H : ((laws_toExNodeS.f k l0_0).bind fun t261 => (some t261)) = some r:=h
 clear h
 replace H:=Option.bind_eq_some_iff.mp H
 obtain ⟨t261,A20,H⟩:=H
 replace H : (some t261) = some r:=H
 have A2:=zm_ A20
 clear A20
 obtain rfl:=Option.some.inj H
 go_enter Try.func27,Try.ntmps27
 go_wp2_with (first|((with_reducible refine gate_dst (N:=1) rfl ?_);refine box_event ?hg (N:=1) ?hd (cs:=#[.slice A0_0 l0_0.length c0_0]) (t:=52) ?hr ?_;(case hd => rfl);(case hg => rfl);(case hr => first|(go_simp;done)|(go_simp;rfl));intro gb258 hg w3 hbox hb;have n0_:=zm_ (below_step (by repeat (first|(with_reducible first|exact HB.out|apply za_|apply zn_|apply zd_)|exact HB.out)) hb);have n1_:=zm_ (hbox);have n2_:=zm_ ((by rw [hg];exact (below_size (by repeat (first|(with_reducible first|exact HB.out|apply za_|apply zn_|apply zd_)|exact HB.out))) : w.heap.size ≤ gb258));have n3_:=zm_ ((by rw [hg];exact (below_size (by repeat (first|(with_reducible first|exact HB.out|apply za_|apply zn_|apply zd_)|exact HB.out))) : w.heap.size ≤ gb258));clear HB;have HB:=n0_;have BK258:=n1_;have GW258:=n2_;have GE258:=n3_;clear n0_ n1_ n2_ n3_;clear hb hbox hg)|((with_reducible refine gate_dst (N:=2) rfl ?_);refine box_event ?hg (N:=2) ?hd (cs:=#[.slice none 0 0]) (t:=28) ?hr ?_;(case hd => rfl);(case hg => rfl);(case hr => first|(go_simp;done)|(go_simp;rfl));intro gb259 hg w4 hbox hb;have n0_:=zm_ (blk_below (g:=gb258) (o:=.cells #[.slice A0_0 l0_0.length c0_0] 52 (0,0)) (by (with_reducible repeat first|refine zl_ ?_ _|refine zr_ ?_|refine zk_ ?_ _);exact BK258.out) hb);have n1_:=zm_ (below_step (by repeat (first|(with_reducible first|exact HB.out|apply za_|apply zn_|apply zd_|refine zs_ ?_ GE258.out)|exact HB.out)) hb);have n2_:=zm_ (hbox);have n3_:=zm_ ((by rw [hg];exact (below_size (by repeat (first|(with_reducible first|exact HB.out|apply za_|apply zn_|apply zd_|refine zs_ ?_ GE258.out)|exact HB.out))) : w.heap.size ≤ gb259));have n4_:=zm_ ((by rw [hg];exact (below_size (by repeat (first|(with_reducible first|exact HB.out|apply za_|apply zn_|apply zd_|refine zs_ ?_ GE258.out)|exact HB.out))) : w.heap.size ≤ gb259));have n5_:=zm_ ((by rw [hg];exact Nat.ne_of_lt (blk_lt (g:=gb258) (o:=.cells #[.slice A0_0 l0_0.length c0_0] 52 (0,0)) (by (with_reducible repeat first|refine zl_ ?_ _|refine zr_ ?_|refine zk_ ?_ _);exact BK258.out)) : gb258 ≠ gb259));have n6_:=zm_ ((by rw [hg];exact Nat.ne_of_gt (blk_lt (g:=gb258) (o:=.cells #[.slice A0_0 l0_0.length c0_0] 52 (0,0)) (by (with_reducible repeat first|refine zl_ ?_ _|refine zr_ ?_|refine zk_ ?_ _);exact BK258.out)) : gb259 ≠ gb258));clear BK258;clear HB;have BK258:=n0_;have HB:=n1_;have BK259:=n2_;have GW259:=n3_;have GE259:=n4_;have NB258_259:=n5_;have NB259_258:=n6_;clear n0_ n1_ n2_ n3_ n4_ n5_ n6_;clear hb hbox hg)|((with_reducible refine gate_dst (N:=3) rfl ?_);refine box_event ?hg (N:=3) ?hd (cs:=#[.slice none 0 0]) (t:=28) ?hr ?_;(case hd => rfl);(case hg => rfl);(case hr => first|(go_simp;done)|(go_simp;rfl));intro gb260 hg w5 hbox hb;have n0_:=zm_ (blk_below (g:=gb258) (o:=.cells #[.slice A0_0 l0_0.length c0_0] 52 (0,0)) (by (with_reducible repeat first|refine zl_ ?_ _|refine zr_ ?_|refine zk_ ?_ _);exact BK258.out) hb);have n1_:=zm_ (blk_below (g:=gb259) (o:=.cells #[.slice none 0 0] 28 (0,0)) (by (with_reducible repeat first|refine zl_ ?_ _|refine zr_ ?_|refine zk_ ?_ _);exact BK259.out) hb);have n2_:=zm_ (below_step (by repeat (first|(with_reducible first|exact HB.out|apply za_|apply zn_|apply zd_|refine zs_ ?_ GE258.out|refine zs_ ?_ GE259.out)|exact HB.out)) hb);have n3_:=zm_ (hbox);have n4_:=zm_ ((by rw [hg];exact (below_size (by repeat (first|(with_reducible first|exact HB.out|apply za_|apply zn_|apply zd_|refine zs_ ?_ GE258.out|refine zs_ ?_ GE259.out)|exact HB.out))) : w.heap.size ≤ gb260));have n5_:=zm_ ((by rw [hg];exact (below_size (by repeat (first|(with_reducible first|exact HB.out|apply za_|apply zn_|apply zd_|refine zs_ ?_ GE258.out|refine zs_ ?_ GE259.out)|exact HB.out))) : w.heap.size ≤ gb260));have n6_:=zm_ ((by rw [hg];exact Nat.ne_of_lt (blk_lt (g:=gb258) (o:=.cells #[.slice A0_0 l0_0.length c0_0] 52 (0,0)) (by (with_reducible repeat first|refine zl_ ?_ _|refine zr_ ?_|refine zk_ ?_ _);exact BK258.out)) : gb258 ≠ gb260));have n7_:=zm_ ((by rw [hg];exact Nat.ne_of_gt (blk_lt (g:=gb258) (o:=.cells #[.slice A0_0 l0_0.length c0_0] 52 (0,0)) (by (with_reducible repeat first|refine zl_ ?_ _|refine zr_ ?_|refine zk_ ?_ _);exact BK258.out)) : gb260 ≠ gb258));have n8_:=zm_ ((by rw [hg];exact Nat.ne_of_lt (blk_lt (g:=gb259) (o:=.cells #[.slice none 0 0] 28 (0,0)) (by (with_reducible repeat first|refine zl_ ?_ _|refine zr_ ?_|refine zk_ ?_ _);exact BK259.out)) : gb259 ≠ gb260));have n9_:=zm_ ((by rw [hg];exact Nat.ne_of_gt (blk_lt (g:=gb259) (o:=.cells #[.slice none 0 0] 28 (0,0)) (by (with_reducible repeat first|refine zl_ ?_ _|refine zr_ ?_|refine zk_ ?_ _);exact BK259.out)) : gb260 ≠ gb259));clear BK258;clear BK259;clear HB;have BK258:=n0_;have BK259:=n1_;have HB:=n2_;have BK260:=n3_;have GW260:=n4_;have GE260:=n5_;have NB258_260:=n6_;have NB260_258:=n7_;have NB259_260:=n8_;have NB260_259:=n9_;clear n0_ n1_ n2_ n3_ n4_ n5_ n6_ n7_ n8_ n9_;clear hb hbox hg;have hnb6:=NB258_259.out;have hnc6:=NB259_258.out;have hnb7:=NB258_260.out;have hnc7:=NB260_258.out;have hcz8_0 : w5.cell? ⟨gb258,0,none⟩ = some (.slice A0_0 l0_0.length c0_0):=(zc_ BK258.out 0).trans rfl;have hfz8_0:=zf_ BK258.out 0)|((with_reducible refine gate_callee (f:=65) rfl ?_);refine goesL_ (some 6) rfl rfl Try.func65 (by kernel_rfl) rfl #[.slice A0_0 l0_0.length c0_0] rfl (by (try simp only [List.map_toArray,List.map_cons,List.map_nil]);first|done|rfl|(simp only [List.length_drop,List.length_take];rfl)) ?_;(with_reducible refine (laws_toExNodeS.calls k _ _ l0_0 t261 _ ?side1 ?side2 A2.out).mono ?_);(case side1 => repeat (first|exact (Kd.C_below HR0_0.out HB.out)|(with_reducible refine Kd.C_alloc ?_ _)|(with_reducible refine Kd.C_drewN ?_ _)|(with_reducible refine Kd.C_drew ?_)));(case side2 => exact HC0_0.out);rintro e w9 ⟨v262,rfl,ho0,hb⟩;refine ⟨_,rfl,?_⟩;have n0_:=zm_ (Kd.S_lower ho0 (below_size (by repeat (first|(with_reducible first|exact HB.out|apply za_|apply zn_|apply zd_|refine zs_ ?_ GE258.out|refine zs_ ?_ GE259.out|refine zs_ ?_ GE260.out)|exact HB.out))));have n1_:=zm_ (blk_below (g:=gb258) (o:=.cells #[.slice A0_0 l0_0.length c0_0] 52 (0,0)) (by (with_reducible repeat first|refine zl_ ?_ _|refine zr_ ?_|refine zk_ ?_ _);exact BK258.out) hb);have n2_:=zm_ (blk_below (g:=gb259) (o:=.cells #[.slice none 0 0] 28 (0,0)) (by (with_reducible repeat first|refine zl_ ?_ _|refine zr_ ?_|refine zk_ ?_ _);exact BK259.out) hb);have n3_:=zm_ (blk_below (g:=gb260) (o:=.cells #[.slice none 0 0] 28 (0,0)) (by (with_reducible repeat first|refine zl_ ?_ _|refine zr_ ?_|refine zk_ ?_ _);exact BK260.out) hb);have n4_:=zm_ (below_step (by repeat (first|(with_reducible first|exact HB.out|apply za_|apply zn_|apply zd_|refine zs_ ?_ GE258.out|refine zs_ ?_ GE259.out|refine zs_ ?_ GE260.out)|exact HB.out)) hb);clear BK258;clear BK259;clear BK260;clear HB;have HO263:=n0_;have BK258:=n1_;have BK259:=n2_;have BK260:=n3_;have HB:=n4_;clear n0_ n1_ n2_ n3_ n4_;(try clear hb);(try clear hb2);(try clear hk);(try clear hi);(try clear ho0);obtain ⟨Ao10,co10,eo10⟩:=Kd.S_slice HO263.out;subst eo10;have hnb11:=NB260_259.out;have hnc11:=NB259_260.out;have hcz12_0 : w9.cell? ⟨gb260,0,none⟩ = some (.slice none 0 0):=(zc_ BK260.out 0).trans rfl;have hfz12_0:=zf_ BK260.out 0;have hcz13_0 : w9.cell? ⟨gb259,0,none⟩ = some (.slice none 0 0):=(zc_ BK259.out 0).trans rfl;have hfz13_0:=zf_ BK259.out 0))
 refine bodyPost_ret (results_cell_row rfl _ _ gb259 28 #[.slice Ao10 t261.length co10] (0,0) _ rfl (by (with_reducible repeat first|refine zl_ ?_ _|refine zr_ ?_|refine zk_ ?_ _);refine blk_put (cs:=#[.slice none 0 0]) ?_ 0 _ rfl;(with_reducible repeat first|refine zl_ ?_ _|refine zr_ ?_|refine zk_ ?_ _);refine blk_far ?_ NB259_260.out _;(with_reducible repeat first|refine zl_ ?_ _|refine zr_ ?_|refine zk_ ?_ _);exact BK259.out) Try.underlying28 rfl (by kernel_rfl)) rfl ?_
 exact ⟨_,by first|rfl|(simp [errW_none,errW_some] <;> rfl)|(simp [*,errW_none,errW_some] <;> rfl),by (with_reducible repeat (first|apply Kd.S_alloc|apply Kd.S_drewN|apply Kd.S_drew));exact Kd.S_mono (Kd.S_far (p:=⟨gb259,0,none⟩) (Kd.S_far (p:=⟨gb260,0,none⟩) (Kd.S_types (Kd.S_types HO263.out BK260.out (by decide)) BK259.out (by decide)) (fun _ hk => hk.1.2) (.slice Ao10 t261.length co10)) (fun _ hk => hk.2) (.slice Ao10 t261.length co10)) (fun _ hk => trivial),by repeat (first|(with_reducible first|exact HB.out|apply za_|apply zn_|apply zd_|refine zs_ ?_ GE258.out|refine zs_ ?_ GE259.out|refine zs_ ?_ GE260.out)|exact HB.out)⟩

def laws_toVar.f (a0_0 : ByteArray) (a0_1 : Int) : Option (ByteArray × Int):=some (a0_0,a0_1)
set_option maxHeartbeats 8000000 in
set_option maxRecDepth 100000 in
theorem laws_toVar.calls (a0_0 : ByteArray) (a0_1 : Int) (r1 : ByteArray) (r2 : Int) (w : World) (h : laws_toVar.f a0_0 a0_1 = some (r1,r2)) :
  Calls Try.prog 66 #[.agg #[.string a0_0,.int .i64 a0_1]] w fun e w' => e = .returned (.agg #[.string r1,.int .i64 r2]) ∧ Below w.heap.size w w':=by
 have hu98:=Try.underlying98
 have hu87:=Try.underlying87
 have HB:=zm_ (Below.refl w.heap.size w)
 have H : (some (a0_0,a0_1)) = some (r1,r2):=h
 clear h
 simp only [Option.some.injEq,Prod.mk.injEq] at H
 obtain ⟨rfl,rfl⟩:=H
 go_enter Try.func66,Try.ntmps66
 go_wp2_with (first|((with_reducible refine gate_dst (N:=1) rfl ?_);refine box_event ?hg (N:=1) ?hd (cs:=#[.string a0_0,.int .i64 a0_1]) (t:=98) ?hr ?_;(case hd => rfl);(case hg => rfl);(case hr => first|(go_simp;done)|(go_simp;rfl));intro gb264 hg w2 hbox hb;have n0_:=zm_ (below_step (by repeat (first|(with_reducible first|exact HB.out|apply za_|apply zn_|apply zd_)|exact HB.out)) hb);have n1_:=zm_ (hbox);have n2_:=zm_ ((by rw [hg];exact (below_size (by repeat (first|(with_reducible first|exact HB.out|apply za_|apply zn_|apply zd_)|exact HB.out))) : w.heap.size ≤ gb264));have n3_:=zm_ ((by rw [hg];exact (below_size (by repeat (first|(with_reducible first|exact HB.out|apply za_|apply zn_|apply zd_)|exact HB.out))) : w.heap.size ≤ gb264));clear HB;have HB:=n0_;have BK264:=n1_;have GW264:=n2_;have GE264:=n3_;clear n0_ n1_ n2_ n3_;clear hb hbox hg)|((with_reducible refine gate_dst (N:=2) rfl ?_);refine box_event ?hg (N:=2) ?hd (cs:=#[.string (⟨#[]⟩ : ByteArray),.int .i64 0]) (t:=87) ?hr ?_;(case hd => rfl);(case hg => rfl);(case hr => first|(go_simp;done)|(go_simp;rfl));intro gb265 hg w3 hbox hb;have n0_:=zm_ (blk_below (g:=gb264) (o:=.cells #[.string a0_0,.int .i64 a0_1] 98 (0,0)) (by (with_reducible repeat first|refine zl_ ?_ _|refine zr_ ?_|refine zk_ ?_ _);exact BK264.out) hb);have n1_:=zm_ (below_step (by repeat (first|(with_reducible first|exact HB.out|apply za_|apply zn_|apply zd_|refine zs_ ?_ GE264.out)|exact HB.out)) hb);have n2_:=zm_ (hbox);have n3_:=zm_ ((by rw [hg];exact (below_size (by repeat (first|(with_reducible first|exact HB.out|apply za_|apply zn_|apply zd_|refine zs_ ?_ GE264.out)|exact HB.out))) : w.heap.size ≤ gb265));have n4_:=zm_ ((by rw [hg];exact (below_size (by repeat (first|(with_reducible first|exact HB.out|apply za_|apply zn_|apply zd_|refine zs_ ?_ GE264.out)|exact HB.out))) : w.heap.size ≤ gb265));have n5_:=zm_ ((by rw [hg];exact Nat.ne_of_lt (blk_lt (g:=gb264) (o:=.cells #[.string a0_0,.int .i64 a0_1] 98 (0,0)) (by (with_reducible repeat first|refine zl_ ?_ _|refine zr_ ?_|refine zk_ ?_ _);exact BK264.out)) : gb264 ≠ gb265));have n6_:=zm_ ((by rw [hg];exact Nat.ne_of_gt (blk_lt (g:=gb264) (o:=.cells #[.string a0_0,.int .i64 a0_1] 98 (0,0)) (by (with_reducible repeat first|refine zl_ ?_ _|refine zr_ ?_|refine zk_ ?_ _);exact BK264.out)) : gb265 ≠ gb264));clear BK264;clear HB;have BK264:=n0_;have HB:=n1_;have BK265:=n2_;have GW265:=n3_;have GE265:=n4_;have NB264_265:=n5_;have NB265_264:=n6_;clear n0_ n1_ n2_ n3_ n4_ n5_ n6_;clear hb hbox hg)|((with_reducible refine gate_dst (N:=3) rfl ?_);refine box_event ?hg (N:=3) ?hd (cs:=#[.string (⟨#[]⟩ : ByteArray),.int .i64 0]) (t:=87) ?hr ?_;(case hd => rfl);(case hg => rfl);(case hr => first|(go_simp;done)|(go_simp;rfl));intro gb266 hg w4 hbox hb;have n0_:=zm_ (blk_below (g:=gb264) (o:=.cells #[.string a0_0,.int .i64 a0_1] 98 (0,0)) (by (with_reducible repeat first|refine zl_ ?_ _|refine zr_ ?_|refine zk_ ?_ _);exact BK264.out) hb);have n1_:=zm_ (blk_below (g:=gb265) (o:=.cells #[.string (⟨#[]⟩ : ByteArray),.int .i64 0] 87 (0,0)) (by (with_reducible repeat first|refine zl_ ?_ _|refine zr_ ?_|refine zk_ ?_ _);exact BK265.out) hb);have n2_:=zm_ (below_step (by repeat (first|(with_reducible first|exact HB.out|apply za_|apply zn_|apply zd_|refine zs_ ?_ GE264.out|refine zs_ ?_ GE265.out)|exact HB.out)) hb);have n3_:=zm_ (hbox);have n4_:=zm_ ((by rw [hg];exact (below_size (by repeat (first|(with_reducible first|exact HB.out|apply za_|apply zn_|apply zd_|refine zs_ ?_ GE264.out|refine zs_ ?_ GE265.out)|exact HB.out))) : w.heap.size ≤ gb266));have n5_:=zm_ ((by rw [hg];exact (below_size (by repeat (first|(with_reducible first|exact HB.out|apply za_|apply zn_|apply zd_|refine zs_ ?_ GE264.out|refine zs_ ?_ GE265.out)|exact HB.out))) : w.heap.size ≤ gb266));have n6_:=zm_ ((by rw [hg];exact Nat.ne_of_lt (blk_lt (g:=gb264) (o:=.cells #[.string a0_0,.int .i64 a0_1] 98 (0,0)) (by (with_reducible repeat first|refine zl_ ?_ _|refine zr_ ?_|refine zk_ ?_ _);exact BK264.out)) : gb264 ≠ gb266));have n7_:=zm_ ((by rw [hg];exact Nat.ne_of_gt (blk_lt (g:=gb264) (o:=.cells #[.string a0_0,.int .i64 a0_1] 98 (0,0)) (by (with_reducible repeat first|refine zl_ ?_ _|refine zr_ ?_|refine zk_ ?_ _);exact BK264.out)) : gb266 ≠ gb264));have n8_:=zm_ ((by rw [hg];exact Nat.ne_of_lt (blk_lt (g:=gb265) (o:=.cells #[.string (⟨#[]⟩ : ByteArray),.int .i64 0] 87 (0,0)) (by (with_reducible repeat first|refine zl_ ?_ _|refine zr_ ?_|refine zk_ ?_ _);exact BK265.out)) : gb265 ≠ gb266));have n9_:=zm_ ((by rw [hg];exact Nat.ne_of_gt (blk_lt (g:=gb265) (o:=.cells #[.string (⟨#[]⟩ : ByteArray),.int .i64 0] 87 (0,0)) (by (with_reducible repeat first|refine zl_ ?_ _|refine zr_ ?_|refine zk_ ?_ _);exact BK265.out)) : gb266 ≠ gb265));clear BK264;clear BK265;clear HB;have BK264:=n0_;have BK265:=n1_;have HB:=n2_;have BK266:=n3_;have GW266:=n4_;have GE266:=n5_;have NB264_266:=n6_;have NB266_264:=n7_;have NB265_266:=n8_;have NB266_265:=n9_;clear n0_ n1_ n2_ n3_ n4_ n5_ n6_ n7_ n8_ n9_;clear hb hbox hg;have hnb5:=NB264_265.out;have hnc5:=NB265_264.out;have hnb6:=NB264_266.out;have hnc6:=NB266_264.out;have hcz7_0 : w4.cell? ⟨gb264,0,none⟩ = some (.string a0_0):=(zc_ BK264.out 0).trans rfl;have hcz7_1 : w4.cell? ⟨gb264,1,none⟩ = some (.int .i64 a0_1):=(zc_ BK264.out 1).trans rfl;have hfz7_0:=zf_ BK264.out 0;have hfz7_1:=zf_ BK264.out 1;have hnb8:=NB266_265.out;have hnc8:=NB265_266.out;have hcz9_0 : w4.cell? ⟨gb266,0,none⟩ = some (.string (⟨#[]⟩ : ByteArray)):=(zc_ BK266.out 0).trans rfl;have hcz9_1 : w4.cell? ⟨gb266,1,none⟩ = some (.int .i64 0):=(zc_ BK266.out 1).trans rfl;have hfz9_0:=zf_ BK266.out 0;have hfz9_1:=zf_ BK266.out 1;have hcz10_0 : w4.cell? ⟨gb265,0,none⟩ = some (.string (⟨#[]⟩ : ByteArray)):=(zc_ BK265.out 0).trans rfl;have hcz10_1 : w4.cell? ⟨gb265,1,none⟩ = some (.int .i64 0):=(zc_ BK265.out 1).trans rfl;have hfz10_0:=zf_ BK265.out 0;have hfz10_1:=zf_ BK265.out 1))
 refine bodyPost_ret (results_cell_row rfl _ _ gb265 87 #[.string a0_0,.int .i64 a0_1] (0,0) _ rfl (by (with_reducible repeat first|refine zl_ ?_ _|refine zr_ ?_|refine zk_ ?_ _);refine blk_put (cs:=#[.string a0_0,.int .i64 0]) ?_ 1 _ rfl;(with_reducible repeat first|refine zl_ ?_ _|refine zr_ ?_|refine zk_ ?_ _);refine blk_put (cs:=#[.string (⟨#[]⟩ : ByteArray),.int .i64 0]) ?_ 0 _ rfl;(with_reducible repeat first|refine zl_ ?_ _|refine zr_ ?_|refine zk_ ?_ _);refine blk_far ?_ NB265_266.out _;(with_reducible repeat first|refine zl_ ?_ _|refine zr_ ?_|refine zk_ ?_ _);refine blk_far ?_ NB265_266.out _;(with_reducible repeat first|refine zl_ ?_ _|refine zr_ ?_|refine zk_ ?_ _);exact BK265.out) Try.underlying87 rfl (by kernel_rfl)) rfl ?_
 exact ⟨by first|rfl|(simp [errW_none,errW_some] <;> rfl)|(simp [*,errW_none,errW_some] <;> rfl),by repeat (first|(with_reducible first|exact HB.out|apply za_|apply zn_|apply zd_|refine zs_ ?_ GE264.out|refine zs_ ?_ GE265.out|refine zs_ ?_ GE266.out)|exact HB.out)⟩

def laws_toVarS.l0 : Nat → List (S98) → List (S87) → Int → Option ((List (S87)))
 |0,_,_,_ => none
 |k + 1,x0,x3,x4 => if x4 < (x0.length : Int) then (if 0 ≤ x4 then ((laws_toVar.f ((rd_T98 x0 x4).f0) ((rd_T98 x0 x4).f1)).bind fun bt271 => (if x4 < (x3.length : Int) then (laws_toVarS.l0 k x0 (x3.set (x4 : Int).toNat (⟨bt271.1,bt271.2⟩ : S87)) (wrap64 (x4 + 1))) else (none))) else (none)) else (some x3)
def laws_toVarS.f (k : Nat) (l0 : List (S98)) : Option ((List (S87))):=if 0 ≤ (l0.length : Int) then (if ((l0.length : Int) : Int).toNat ≤ 11728124029610 then (laws_toVarS.l0 k l0 (List.replicate ((l0.length : Int) : Int).toNat z87) 0) else (none)) else (none)
theorem laws_toVarS.mono_l : ∀ k,(∀ y0 y1 y2,LeO (laws_toVarS.l0 k y0 y1 y2) (laws_toVarS.l0 (k + 1) y0 y1 y2))
 |0 => fun _ _ _ r h => by simp [laws_toVarS.l0] at h
 |k + 1 => by
  have ih0:=laws_toVarS.mono_l k
  ·intro y0 y1 y2
   unfold laws_toVarS.l0
   repeat' first
   |(with_reducible exact ih0 _ _ _)
   |(with_reducible exact LeO.refl _)
   |(with_reducible exact LeO.none _)
   |(with_reducible refine LeO.ite ?_ ?_)
   |(with_reducible refine LeO.bind ?_ (fun _ => ?_))
theorem laws_toVarS.mono : ∀ a0 k,LeO (laws_toVarS.f k a0) (laws_toVarS.f (k + 1) a0):=by
 intro a0 k
 have ih0:=laws_toVarS.mono_l k
 unfold laws_toVarS.f
 repeat' first
   |(with_reducible exact ih0 _ _ _)
   |(with_reducible exact LeO.refl _)
   |(with_reducible exact LeO.none _)
   |(with_reducible refine LeO.ite ?_ ?_)
   |(with_reducible refine LeO.bind ?_ (fun _ => ?_))
set_option maxHeartbeats 8000000 in
set_option maxRecDepth 100000 in
theorem laws_toVarS.calls (k : Nat) (A0 : Option Addr) (c0 : Nat) (l0 : List (S98)) (r : List (S87)) (w : World) (hr0 : Kd.C k98 w A0 l0.length l0) (hc0 : l0.length ≤ c0) (h : laws_toVarS.f k l0 = some r) :
  Calls Try.prog 28 #[.slice A0 l0.length c0] w fun e w' => ∃ v0_ : Value,e = .returned (v0_) ∧ Kd.R k87 87 w' w.heap.size (fun _ => True) v0_ r ∧ Below w.heap.size w w':=by
 have hu98:=Try.underlying98
 have hu87:=Try.underlying87
 have HR0:=zm_ hr0
 have HC0:=zm_ hc0
 clear hr0 hc0
 have HB:=zm_ (Below.refl w.heap.size w)
 have H : (if 0 ≤ (l0.length : Int) then (if ((l0.length : Int) : Int).toNat ≤ 11728124029610 then (laws_toVarS.l0 k l0 (List.replicate ((l0.length : Int) : Int).toNat z87) 0) else (none)) else (none)) = some r:=h
 clear h
 by_cases c2 : 0 ≤ (l0.length : Int)
 ·rw [if_pos c2] at H
  have c2b0:=eq_true c2
  have c2b1 : decide (0 ≤ (l0.length : Int)) = true:=decide_eq_true c2
  clear c2
  by_cases c3 : ((l0.length : Int) : Int).toNat ≤ 11728124029610
  ·rw [if_pos c3] at H
   have c3b0:=eq_true c3
   have c3b1 : decide (((l0.length : Int) : Int).toNat ≤ 11728124029610) = true:=decide_eq_true c3
   clear c3
   obtain ⟨y267,hy267⟩ : ∃ y_ : List (S87),y_ = (List.replicate ((l0.length : Int) : Int).toNat z87):=⟨_,rfl⟩
   replace H : (laws_toVarS.l0 k l0 y267 0) = some r:=by first|(rw [hy267];with_reducible exact H)|(have H2_:=(Option.bind_some _ _).symm.trans H;rw [hy267];with_reducible exact H2_)|(have H2_:=(Option.bind_some _ _).symm.trans H;with_reducible exact H2_)|with_reducible exact H|(rw [hy267];exact H)|exact H
   have Ny267:=zm_ hy267
   clear hy267
   have H':=zm_ H
   clear H
   go_enter Try.func28,Try.ntmps28
   go_wp2_with (first|((with_reducible refine gate_dst (N:=7) rfl ?_);refine Kd.R_make k87 _ 87 rfl (N:=7) rfl 32 _ _ rfl (l0.length : Int) rfl rfl Try.underlying32 (.agg #[(.string ⟨#[]⟩),(.int .i64 0)]) 24 info87 rfl (by decide) (by omega) z87 (ok:=fun _ => True) (okp:=fun _ => True) (k87_mkM _ _ _ z87 ) (fun _ hk => hk) trivial (zo_) (Nat.le_trans (Nat.mul_le_mul_right _ (zo_ : (l0.length : Int).toNat ≤ 11728124029610)) (by omega)) (Below.refl _ _) (Nat.le_refl _) ?_;intro v268 w4 ho5 hb hg_ hnew_;clear hg_ hnew_;(first|rw [← Ny267.out] at ho5|(simp only [Int.reduceToNat] at ho5;rw [← Ny267.out] at ho5));have n0_:=zm_ (Kd.R_lower ho5 (below_size (by repeat (first|(with_reducible first|exact HB.out|apply za_|apply zn_|apply zd_)|exact HB.out))));have n1_:=zm_ (below_step (by repeat (first|(with_reducible first|exact HB.out|apply za_|apply zn_|apply zd_)|exact HB.out)) hb);clear HB;have HO269:=n0_;have HB:=n1_;clear n0_ n1_;clear hb ho5))
   go_loopg [4] k (fun kq v4 w' => ∃ (x3_1 : List (S87)) (x4_1 : Int),v4 = .int .i64 x4_1 ∧ Aside0 (laws_toVarS.l0 kq l0 x3_1 x4_1 = some r) ∧ Aside0 (kq ≤ k) ∧ Aside0 (Kd.R k87 87 w' w.heap.size (fun _ => True) v268 x3_1) ∧ Aside0 (Below w.heap.size w w'))
   case atStart => exact ⟨(y267),(0),(by first|rfl|(exact congrArg Value.bool (isEmpty_ne _))|(exact congrArg Value.bool (isEmpty_ne' _))|(exact congrArg Value.bool (isEmpty_eq _))|(simp;done)|(simp [*];done)),H',⟨Nat.le_refl _⟩,⟨by (with_reducible repeat (first|apply Kd.R_alloc|apply Kd.R_drewN|apply Kd.R_drew));exact HO269.out⟩,⟨by repeat (first|(with_reducible first|exact HB.out|apply za_|apply zn_|apply zd_)|exact HB.out)⟩⟩
   case round =>
    clear H'
    try clear c2
    try clear c2b0
    try clear c2b1
    try clear p2
    try clear c3
    try clear c3b0
    try clear c3b1
    obtain ⟨x3_1,x4_1,rfl,HA,HK1,HO_3,HB⟩:=hrel
    cases gk with
    |zero => exact absurd HA.out (by simp [laws_toVarS.l0])
    |succ k1 =>
     have H:=HA.out
     clear HA
     simp only [laws_toVarS.l0] at H
     by_cases c6 : x4_1 < (l0.length : Int)
     ·rw [if_pos c6] at H
      have c6b0 : decide (x4_1 < (l0.length : Int)) = true:=decide_eq_true c6
      clear c6
      by_cases c7 : 0 ≤ x4_1
      ·rw [if_pos c7] at H
       have c7b0 : decide (0 ≤ x4_1) = true:=decide_eq_true c7
       clear c7
       replace H:=Option.bind_eq_some_iff.mp H
       obtain ⟨⟨t271,t272⟩,A80,H⟩:=H
       replace H : (if x4_1 < (x3_1.length : Int) then (laws_toVarS.l0 k1 l0 (x3_1.set (x4_1 : Int).toNat (⟨t271,t272⟩ : S87)) (wrap64 (x4_1 + 1))) else (none)) = some r:=H
       have A8:=zm_ A80
       clear A80
       by_cases c9 : x4_1 < (x3_1.length : Int)
       ·rw [if_pos c9] at H
        have c9b0 : decide (x4_1 < (x3_1.length : Int)) = true:=decide_eq_true c9
        clear c9
        obtain ⟨y273,hy273⟩ : ∃ y_ : List (S87),y_ = (x3_1.set (x4_1 : Int).toNat (⟨t271,t272⟩ : S87)):=⟨_,rfl⟩
        replace H : (laws_toVarS.l0 k1 l0 y273 (wrap64 (x4_1 + 1))) = some r:=by first|(rw [hy273];with_reducible exact H)|(have H2_:=(Option.bind_some _ _).symm.trans H;rw [hy273];with_reducible exact H2_)|(have H2_:=(Option.bind_some _ _).symm.trans H;with_reducible exact H2_)|with_reducible exact H|(rw [hy273];exact H)|exact H
        have Ny273:=zm_ hy273
        clear hy273
        have H':=zm_ H
        clear H
        have p270 : 0 ≤ (x4_1 : Int):=zo_
        have q270 : x4_1 < (l0.length : Int):=zo_
        obtain ⟨ad270,e270,hx270_0,hx270_1⟩:=at_T98 HR0.out x4_1 p270 q270
        cases e270
        replace hx270_0:=(HB.out.cell (zb_ w _ hx270_0)).trans hx270_0
        replace hx270_1:=(HB.out.cell (zb_ w _ hx270_1)).trans hx270_1
        replace p270:=eq_true p270
        replace q270:=eq_true q270
        go_wp2_with (first|((with_reducible refine gate_callee (f:=66) rfl ?_);refine goesL_ (some 20) rfl rfl Try.func66 (by kernel_rfl) rfl #[.agg #[.string ((rd_T98 l0 x4_1).f0),.int .i64 ((rd_T98 l0 x4_1).f1)]] rfl (by (try simp only [List.map_toArray,List.map_cons,List.map_nil]);first|done|rfl|(simp only [List.length_drop,List.length_take];rfl)) ?_;(with_reducible refine (laws_toVar.calls ((rd_T98 l0 x4_1).f0) ((rd_T98 l0 x4_1).f1) t271 t272 _ A8.out).mono ?_);rintro e w11 ⟨rfl,hb⟩;refine ⟨_,rfl,?_⟩;have n0_:=zm_ (Kd.R_below (by (with_reducible repeat (first|apply Kd.R_alloc|apply Kd.R_drewN|apply Kd.R_drew));exact HO_3.out) hb);have n1_:=zm_ (below_step (by repeat (first|(with_reducible first|exact HB.out|apply za_|apply zn_|apply zd_)|exact HB.out)) hb);clear HO_3;clear HB;have HO_3:=n0_;have HB:=n1_;clear n0_ n1_;(try clear hb);(try clear hb2);(try clear hk);(try clear hi);have p10 : 0 ≤ (x4_1 : Int):=zo_;have q10 : (x4_1 : Int) < ((x3_1.length : Int) : Int):=zo_;obtain ⟨go10,co10,eo10,gb10,gl10,cl10,HG10⟩:=Kd.R_form HO_3.out (by omega);(first|cases eo10|(injection eo10 with ea_ en_ ec_;(first|subst ea_|(injection ea_ with ea_;subst ea_));subst ec_;clear en_));have GB10:=zm_ gb10;have GG10:=zm_ HG10;clear gb10 gl10 HG10;obtain ⟨ce10,hcl10,hM10,hcc10,hfr10⟩:=Kd.R_elem HO_3.out z87 (x4_1 : Int) p10 q10;obtain rfl:=k87_openM hM10;have hx10_0 : w11.cell? ⟨go10,(x4_1 : Int).toNat * 2,none⟩ = some (.string ((rd_T87 x3_1 x4_1).f0)):=hcc10 0 _ rfl;have hx10_1 : w11.cell? ⟨go10,(x4_1 : Int).toNat * 2 + 1,none⟩ = some (.int .i64 ((rd_T87 x3_1 x4_1).f1)):=hcc10 1 _ rfl;have hf10_0 : w11.frozen? ⟨go10,(x4_1 : Int).toNat * 2,none⟩ = false:=hfr10 0;have hf10_1 : w11.frozen? ⟨go10,(x4_1 : Int).toNat * 2 + 1,none⟩ = false:=hfr10 1;clear hcl10 hcc10 hfr10 hM10;replace p10:=eq_true p10;replace q10:=eq_true q10;have HX12:=zm_ (show Kd.R k87 87 w11 w.heap.size (fun _ => True) (.slice (some ⟨go10,0,none⟩) x3_1.length co10) x3_1 from (by (with_reducible repeat (first|apply Kd.R_alloc|apply Kd.R_drewN|apply Kd.R_drew));exact HO_3.out));obtain ⟨ce12,hcl12,hM12,hcc12,hfr12⟩:=Kd.R_elem HX12.out z87 (x4_1 : Int) (zo_) (by have h_ : (x4_1 : Int) < ((x3_1.length : Int) : Int):=zo_;first|exact h_|(have e_:=(Kd.R_reads' HO_3.out).1;omega)|simpa using h_);obtain rfl:=k87_openM hM12;have HP12:=Kd.R_seg HX12.out (x4_1 : Int) (zo_) (by have h_ : (x4_1 : Int) < ((x3_1.length : Int) : Int):=zo_;first|exact h_|(have e_:=(Kd.R_reads' HO_3.out).1;omega)|simpa using h_) (seg:=[.string t271,.int .i64 t272]) (j:=0) hcl12 hcc12 (show 2 ≤ 2 from by decide) (x':=(⟨t271,t272⟩ : S87)) (k87_mkM _ _ _ (⟨t271,t272⟩ : S87) ) (fun _ hk => hk);have hx12_0:=hcc12 0 _ rfl;(try simp only [show (k87).sz = 2 from rfl,Nat.mul_one,Nat.add_zero] at hx12_0);have hf12_0:=hfr12 0;(try simp only [show (k87).sz = 2 from rfl,Nat.mul_one,Nat.add_zero] at hf12_0);have hx12_1:=hcc12 1 _ rfl;(try simp only [show (k87).sz = 2 from rfl,Nat.mul_one,Nat.add_zero] at hx12_1);have hf12_1:=hfr12 1;(try simp only [show (k87).sz = 2 from rfl,Nat.mul_one,Nat.add_zero] at hf12_1);clear hcl12 hcc12 hfr12 hM12)|((with_reducible refine gate_store (t:=87) (p:=21) rfl ?_);refine store_event (t:=87) (p:=21) (v:=?vo_w13) (w1:=((w11.setCell ⟨go10,(x4_1 : Int).toNat * 2,none⟩ (.string t271)).setCell ⟨go10,(x4_1 : Int).toNat * 2 + 1,none⟩ (.int .i64 t272))) ?hg ?ho ?hn ?hr ?_;(case ho => rfl);(case hg => rfl);(case hn => rfl);(case hr => first|(go_simp;done)|(go_simp;rfl));intro w13 hw;have hg : w11.grownBy w13 (some go10):=(by rw [hw];exact HP12.2);have hp_ : Kd.R k87 87 w13 w.heap.size (fun _ => True) (.slice (some ⟨go10,0,none⟩) x3_1.length co10) y273:=(by rw [hw,Ny273.out];exact HP12.1);clear HP12;have n0_:=zm_ (hp_);have n1_:=zm_ ((by rw [hw];exact zs_ (zs_ (HB.out) GB10.out) GB10.out : Below w.heap.size w w13));clear HO_3;clear HB;have HO_3:=n0_;have HB:=n1_;clear n0_ n1_;clear hg hw hp_))
        go_roundg k1
        case measure => have:=HK1.out;omega
        case rel => exact ⟨(y273),(wrap64 (x4_1 + 1)),(by first|rfl|(exact congrArg Value.bool (isEmpty_ne _))|(exact congrArg Value.bool (isEmpty_ne' _))|(exact congrArg Value.bool (isEmpty_eq _))|(simp;done)|(simp [*];done)),H',⟨by have:=HK1.out;omega⟩,⟨by (with_reducible repeat (first|apply Kd.R_alloc|apply Kd.R_drewN|apply Kd.R_drew));exact HO_3.out⟩,⟨by repeat (first|(with_reducible first|exact HB.out|apply za_|apply zn_|apply zd_)|exact HB.out)⟩⟩
       ·rw [if_neg c9] at H
        exact absurd H (by simp)
      ·rw [if_neg c7] at H
       exact absurd H (by simp)
     ·rw [if_neg c6] at H
      have c6b0 : decide (x4_1 < (l0.length : Int)) = false:=decide_eq_false c6
      clear c6
      obtain rfl:=Option.some.inj H
      go_wp2
      go_ret
      exact ⟨_,by first|rfl|(simp [errW_none,errW_some] <;> rfl)|(simp [*,errW_none,errW_some] <;> rfl),by (with_reducible repeat (first|apply Kd.R_alloc|apply Kd.R_drewN|apply Kd.R_drew));exact HO_3.out,by repeat (first|(with_reducible first|exact HB.out|apply za_|apply zn_|apply zd_)|exact HB.out)⟩
  ·rw [if_neg c3] at H
   exact absurd H (by simp)
 ·rw [if_neg c2] at H
  exact absurd H (by simp)

end Go.Proofs.Ytnmhggdaccbbfaa.MFnExactEvalExpr
