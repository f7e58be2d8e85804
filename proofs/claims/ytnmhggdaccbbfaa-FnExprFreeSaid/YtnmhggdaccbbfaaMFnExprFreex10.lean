import Derived.Test.YtnmhggdaccbbfaaMFnExprFreex0
import Derived.Test.YtnmhggdaccbbfaaMFnExprFreex9
namespace Go.Proofs.Ytnmhggdaccbbfaa.MFnExprFree
open Go.RowKit Go.Proofs.YtnmhggdaccbbfaaW.PrintWords Go.Proofs.YtnmhggdaccbbfaaW.PrintLast Go.Proofs.YtnmhggdaccbbfaaW.PrintMore
attribute [local go_sem] max2_int min2_int max_two min_two max_three min_three max_four min_four
set_option linter.unusedVariables false
set_option linter.unusedSimpArgs false

def spec_EnvOnly.l0 : Nat → List (S87) → List ByteArray → List (S87) → Int → Option ((List (S87)))
 |0,_,_,_,_ => none
 |k + 1,x0,x1,x5,x6 => if x6 < (x0.length : Int) then (if 0 ≤ x6 then ((spec_l03In.f k x1 ((rd_T87 x0 x6).f0)).bind fun t336 => (if t336 = true then (if x5.length < 5864062014805 then (spec_EnvOnly.l0 k x0 x1 (x5 ++ [(⟨(rd_T87 x0 x6).f0,(rd_T87 x0 x6).f1⟩ : S87)]) (wrap64 (x6 + 1))) else (none)) else (spec_EnvOnly.l0 k x0 x1 x5 (wrap64 (x6 + 1))))) else (none)) else (some x5)
def spec_EnvOnly.f (k : Nat) (l0 : List (S87)) (l1 : List ByteArray) : Option ((List (S87))):=spec_EnvOnly.l0 k l0 l1 (([] : List (S87))) 0
theorem spec_EnvOnly.mono_l : ∀ k,(∀ y0 y1 y2 y3,LeO (spec_EnvOnly.l0 k y0 y1 y2 y3) (spec_EnvOnly.l0 (k + 1) y0 y1 y2 y3))
 |0 => fun _ _ _ _ r h => by simp [spec_EnvOnly.l0] at h
 |k + 1 => by
  have ih0:=spec_EnvOnly.mono_l k
  ·intro y0 y1 y2 y3
   unfold spec_EnvOnly.l0
   repeat' first
   |(with_reducible exact ih0 _ _ _ _)
   |(with_reducible exact spec_l03In.mono _ _ _)
   |(with_reducible exact LeO.refl _)
   |(with_reducible exact LeO.none _)
   |(with_reducible refine LeO.ite ?_ ?_)
   |(with_reducible refine LeO.bind ?_ (fun _ => ?_))
theorem spec_EnvOnly.mono : ∀ a0 a1 k,LeO (spec_EnvOnly.f k a0 a1) (spec_EnvOnly.f (k + 1) a0 a1):=by
 intro a0 a1 k
 have ih0:=spec_EnvOnly.mono_l k
 unfold spec_EnvOnly.f
 repeat' first
   |(with_reducible exact ih0 _ _ _ _)
   |(with_reducible exact spec_l03In.mono _ _ _)
   |(with_reducible exact LeO.refl _)
   |(with_reducible exact LeO.none _)
   |(with_reducible refine LeO.ite ?_ ?_)
   |(with_reducible refine LeO.bind ?_ (fun _ => ?_))
set_option maxHeartbeats 8000000 in
set_option maxRecDepth 100000 in
theorem spec_EnvOnly.calls (k : Nat) (A0 : Option Addr) (c0 : Nat) (l0 : List (S87)) (A1 : Option Addr) (c1 : Nat) (l1 : List ByteArray) (r : List (S87)) (w : World) (hr0 : Kd.C k87 w A0 l0.length l0) (hc0 : l0.length ≤ c0) (hr1 : Kd.C Kd.string w A1 l1.length l1) (hc1 : l1.length ≤ c1) (h : spec_EnvOnly.f k l0 l1 = some r) :
  Calls Try.prog 37 #[.slice A0 l0.length c0,.slice A1 l1.length c1] w fun e w' => ∃ v0_ : Value,e = .returned (v0_) ∧ Kd.R k87 87 w' w.heap.size (fun _ => True) v0_ r ∧ Below w.heap.size w w':=by
 have hu87:=Try.underlying87
 have HR0:=zm_ hr0
 have HC0:=zm_ hc0
 clear hr0 hc0
 have HR1:=zm_ hr1
 have HC1:=zm_ hc1
 clear hr1 hc1
 have HB:=zm_ (Below.refl w.heap.size w)
 have H : (spec_EnvOnly.l0 k l0 l1 (([] : List (S87))) 0) = some r:=h
 clear h
 obtain ⟨y332,hy332⟩ : ∃ y_ : List (S87),y_ = (([] : List (S87))):=⟨_,rfl⟩
 replace H : (spec_EnvOnly.l0 k l0 l1 y332 0) = some r:=by first|(rw [hy332];with_reducible exact H)|(have H2_:=(Option.bind_some _ _).symm.trans H;rw [hy332];with_reducible exact H2_)|(have H2_:=(Option.bind_some _ _).symm.trans H;with_reducible exact H2_)|with_reducible exact H|(rw [hy332];exact H)|exact H
 have Ny332:=zm_ hy332
 clear hy332
 have H':=zm_ H
 clear H
 go_enter Try.func37,Try.ntmps37
 go_wp2_with (first|((with_reducible refine gate_dst (N:=7) rfl ?_);refine Kd.R_lit k87 _ 87 ?hg (N:=7) ?hd (xs:=([] : List (S87))) (inner:=[]) (ok:=fun _ => True) (okp:=fun _ => True) ?hr ?hp (fun _ hk => hk) trivial (Below.refl _ _) (Nat.le_refl _) (by simp) ?_;(case hd => rfl);(case hg => rfl);(case hr => first|(go_simp;done)|(go_simp;rfl));(case hp => exact (Reps.none _ _));intro v333 w3 ho4 hb hg_ hnew_;clear hg_ hnew_;(first|rw [← Ny332.out] at ho4|(simp only [Int.reduceToNat] at ho4;rw [← Ny332.out] at ho4));have n0_:=zm_ (Kd.R_lower ho4 (below_size zB_));have n1_:=zm_ (below_step zB_ hb);clear HB;have HO334:=n0_;have HB:=n1_;clear n0_ n1_;clear hb ho4))
 go_loopg [5,6] k (fun kq v5 v6 w' => ∃ (x5_1 : List (S87)) (x6_1 : Int),v6 = .int .i64 x6_1 ∧ Aside0 (spec_EnvOnly.l0 kq l0 l1 x5_1 x6_1 = some r) ∧ Aside0 (kq ≤ k) ∧ Aside0 (Kd.R k87 87 w' w.heap.size (fun _ => True) v5 x5_1) ∧ Aside0 (Below w.heap.size w w'))
 case atStart => exact ⟨(y332),(0),zV_,H',⟨Nat.le_refl _⟩,⟨by (with_reducible repeat (first|apply Kd.R_alloc|apply Kd.R_drewN|apply Kd.R_drew));exact HO334.out⟩,⟨by repeat (first|(with_reducible first|exact HB.out|apply za_|apply zn_|apply zd_)|exact HB.out)⟩⟩
 case round =>
  clear H'
  try clear c1
  try clear p2
  try clear c3
  obtain ⟨x5_1,x6_1,rfl,HA,HK1,HO_5,HB⟩:=hrel
  cases gk with
  |zero => exact absurd HA.out (by simp [spec_EnvOnly.l0])
  |succ k1 =>
   have H:=HA.out
   clear HA
   simp only [spec_EnvOnly.l0] at H
   by_cases c5 : x6_1 < (l0.length : Int)
   ·rw [if_pos c5] at H
    have c5b0 : decide (x6_1 < (l0.length : Int)) = true:=decide_eq_true c5
    clear c5
    by_cases c6 : 0 ≤ x6_1
    ·rw [if_pos c6] at H
     have c6b0 : decide (0 ≤ x6_1) = true:=decide_eq_true c6
     clear c6
     replace H:=Option.bind_eq_some_iff.mp H
     obtain ⟨t336,A70,H⟩:=H
     replace H : (if t336 = true then (if x5_1.length < 5864062014805 then (spec_EnvOnly.l0 k1 l0 l1 (x5_1 ++ [(⟨(rd_T87 l0 x6_1).f0,(rd_T87 l0 x6_1).f1⟩ : S87)]) (wrap64 (x6_1 + 1))) else (none)) else (spec_EnvOnly.l0 k1 l0 l1 x5_1 (wrap64 (x6_1 + 1)))) = some r:=H
     have A7:=zm_ A70
     clear A70
     by_cases c8 : t336 = true
     ·subst c8
      have H1 : (if x5_1.length < 5864062014805 then (spec_EnvOnly.l0 k1 l0 l1 (x5_1 ++ [(⟨(rd_T87 l0 x6_1).f0,(rd_T87 l0 x6_1).f1⟩ : S87)]) (wrap64 (x6_1 + 1))) else (none)) = some r:=by rw [if_pos rfl] at H;exact H
      clear H
      have H:=H1
      clear H1
      by_cases c9 : x5_1.length < 5864062014805
      ·rw [if_pos c9] at H
       have LMc9:=zm_ c9
       clear c9
       obtain ⟨y338,hy338⟩ : ∃ y_ : List (S87),y_ = (x5_1 ++ [(⟨(rd_T87 l0 x6_1).f0,(rd_T87 l0 x6_1).f1⟩ : S87)]):=⟨_,rfl⟩
       replace H : (spec_EnvOnly.l0 k1 l0 l1 y338 (wrap64 (x6_1 + 1))) = some r:=by first|(rw [hy338];with_reducible exact H)|(have H2_:=(Option.bind_some _ _).symm.trans H;rw [hy338];with_reducible exact H2_)|(have H2_:=(Option.bind_some _ _).symm.trans H;with_reducible exact H2_)|with_reducible exact H|(rw [hy338];exact H)|exact H
       have Ny338:=zm_ hy338
       clear hy338
       have H':=zm_ H
       clear H
       have p335 : 0 ≤ (x6_1 : Int):=zo_
       have q335 : x6_1 < (l0.length : Int):=zo_
       obtain ⟨ad335,e335,hx335_0,hx335_1⟩:=at_T87 HR0.out x6_1 p335 q335
       cases e335
       replace hx335_0:=(HB.out.cell (zb_ w _ hx335_0)).trans hx335_0
       replace hx335_1:=(HB.out.cell (zb_ w _ hx335_1)).trans hx335_1
       replace p335:=eq_true p335
       replace q335:=eq_true q335
       go_wp2_with (first|((with_reducible refine gate_callee (f:=74) rfl ?_);refine goesL_ (some 20) rfl rfl Try.func74 (by kernel_rfl) rfl #[.slice A1 l1.length c1,.string ((rd_T87 l0 x6_1).f0)] rfl zq_ ?_;(with_reducible refine (spec_l03In.calls k1 _ _ l1 ((rd_T87 l0 x6_1).f0) true _ ?side1 ?side2 A7.out).mono ?_);(case side1 => repeat (first|exact (Kd.C_below HR1.out HB.out)|(with_reducible refine Kd.C_alloc ?_ _)|(with_reducible refine Kd.C_drewN ?_ _)|(with_reducible refine Kd.C_drew ?_)));(case side2 => exact HC1.out);rintro e w' ⟨rfl,⟨nd,rfl⟩⟩;refine ⟨_,rfl,?_⟩;have p337 : 0 ≤ (x6_1 : Int):=zo_;have q337 : x6_1 < (l0.length : Int):=zo_;obtain ⟨ad337,e337,hx337_0,hx337_1⟩:=at_T87 HR0.out x6_1 p337 q337;obtain rfl : ad335 = ad337:=(by injection e337);replace hx337_0:=(HB.out.cell (zb_ w _ hx337_0)).trans hx337_0;replace hx337_1:=(HB.out.cell (zb_ w _ hx337_1)).trans hx337_1;replace p337:=eq_true p337;replace q337:=eq_true q337)|((with_reducible refine gate_builtin (b:=.append) (xs:=#[.tmp 21,.tmp 26]) rfl ?_);at_builtin;refine Kd.R_append k87 (w0:=w) w.heap.size rfl (.tmp 21) (.tmp 26) 32 87 (.agg #[(.string ⟨#[]⟩),(.int .i64 0)]) 24 rfl Try.underlying32 info87 rfl (by decide) (by omega) u5 x5_1 (⟨(rd_T87 l0 x6_1).f0,(rd_T87 l0 x6_1).f1⟩ : S87) [.string ((rd_T87 l0 x6_1).f0),.int .i64 ((rd_T87 l0 x6_1).f1)] (fun _ => True) (fun _ => False) rfl rfl ?aP (fun _ hk => hk.elim) ?aF ?aO ?aB ?aS ?aL ?_;(case aP => exact k87_mkM _ _ _ (⟨(rd_T87 l0 x6_1).f0,(rd_T87 l0 x6_1).f1⟩ : S87));(case aB => exact zB_);(case aF => exact (fun _ _ => trivial));(case aO => exact (by (with_reducible repeat (first|apply Kd.R_alloc|apply Kd.R_drewN|apply Kd.R_drew));exact HO_5.out));(case aS => exact (below_size zB_));(case aL => have:=LMc9.out;omega);intro v339 w10 ho hb hg hat;rw [← Ny338.out] at ho;have n0_:=zm_ (hb);have n1_:=zm_ (ho);clear HB;clear HO_5;have HB:=n0_;have HO340:=n1_;clear n0_ n1_;clear ho hb hg hat))
       go_roundg k1
       case measure => have:=HK1.out;omega
       case rel => exact ⟨(y338),(wrap64 (x6_1 + 1)),zV_,H',⟨by have:=HK1.out;omega⟩,⟨by (with_reducible repeat (first|apply Kd.R_alloc|apply Kd.R_drewN|apply Kd.R_drew));exact HO340.out⟩,⟨by repeat (first|(with_reducible first|exact HB.out|apply za_|apply zn_|apply zd_)|exact HB.out)⟩⟩
      ·rw [if_neg c9] at H
       exact absurd H (by simp)
     ·replace c8:=Bool.eq_false_iff.mpr c8
      subst c8
      have H1 : (spec_EnvOnly.l0 k1 l0 l1 x5_1 (wrap64 (x6_1 + 1))) = some r:=by rw [if_neg (show ¬ (false = true) by decide)] at H;exact H
      clear H
      have H:=H1
      clear H1
      have H':=zm_ H
      clear H
      have p335 : 0 ≤ (x6_1 : Int):=zo_
      have q335 : x6_1 < (l0.length : Int):=zo_
      obtain ⟨ad335,e335,hx335_0,hx335_1⟩:=at_T87 HR0.out x6_1 p335 q335
      cases e335
      replace hx335_0:=(HB.out.cell (zb_ w _ hx335_0)).trans hx335_0
      replace hx335_1:=(HB.out.cell (zb_ w _ hx335_1)).trans hx335_1
      replace p335:=eq_true p335
      replace q335:=eq_true q335
      go_wp2_with (first|((with_reducible refine gate_callee (f:=74) rfl ?_);refine goesL_ (some 20) rfl rfl Try.func74 (by kernel_rfl) rfl #[.slice A1 l1.length c1,.string ((rd_T87 l0 x6_1).f0)] rfl zq_ ?_;(with_reducible refine (spec_l03In.calls k1 _ _ l1 ((rd_T87 l0 x6_1).f0) false _ ?side1 ?side2 A7.out).mono ?_);(case side1 => repeat (first|exact (Kd.C_below HR1.out HB.out)|(with_reducible refine Kd.C_alloc ?_ _)|(with_reducible refine Kd.C_drewN ?_ _)|(with_reducible refine Kd.C_drew ?_)));(case side2 => exact HC1.out);rintro e w' ⟨rfl,⟨nd,rfl⟩⟩;refine ⟨_,rfl,?_⟩))
      go_roundg k1
      case measure => have:=HK1.out;omega
      case rel => exact ⟨(x5_1),(wrap64 (x6_1 + 1)),zV_,H',⟨by have:=HK1.out;omega⟩,⟨by (with_reducible repeat (first|apply Kd.R_alloc|apply Kd.R_drewN|apply Kd.R_drew));exact HO_5.out⟩,⟨by repeat (first|(with_reducible first|exact HB.out|apply za_|apply zn_|apply zd_)|exact HB.out)⟩⟩
    ·rw [if_neg c6] at H
     exact absurd H (by simp)
   ·rw [if_neg c5] at H
    have c5b0 : decide (x6_1 < (l0.length : Int)) = false:=decide_eq_false c5
    clear c5
    obtain rfl:=Option.some.inj H
    go_wp2
    go_ret
    exact ⟨_,by first|rfl|(simp [errW_none,errW_some] <;> rfl)|(simp [*,errW_none,errW_some] <;> rfl),by (with_reducible repeat (first|apply Kd.R_alloc|apply Kd.R_drewN|apply Kd.R_drew));exact HO_5.out,by repeat (first|(with_reducible first|exact HB.out|apply za_|apply zn_|apply zd_)|exact HB.out)⟩

def laws_has.l0 : Nat → List ByteArray → ByteArray → Int → Option (Bool)
 |0,_,_,_ => none
 |k + 1,x0,x1,x5 => if x5 < (x0.length : Int) then (if 0 ≤ x5 then (if (rdOf ByteArray.empty x0 x5).toList = x1.toList then (some true) else (laws_has.l0 k x0 x1 (wrap64 (x5 + 1)))) else (none)) else (some false)
def laws_has.f (k : Nat) (l0 : List ByteArray) (a1 : ByteArray) : Option (Bool):=laws_has.l0 k l0 a1 0
theorem laws_has.mono_l : ∀ k,(∀ y0 y1 y2,LeO (laws_has.l0 k y0 y1 y2) (laws_has.l0 (k + 1) y0 y1 y2))
 |0 => fun _ _ _ r h => by simp [laws_has.l0] at h
 |k + 1 => by
  have ih0:=laws_has.mono_l k
  ·intro y0 y1 y2
   unfold laws_has.l0
   repeat' first
   |(with_reducible exact ih0 _ _ _)
   |(with_reducible exact LeO.refl _)
   |(with_reducible exact LeO.none _)
   |(with_reducible refine LeO.ite ?_ ?_)
   |(with_reducible refine LeO.bind ?_ (fun _ => ?_))
theorem laws_has.mono : ∀ a0 a1 k,LeO (laws_has.f k a0 a1) (laws_has.f (k + 1) a0 a1):=by
 intro a0 a1 k
 have ih0:=laws_has.mono_l k
 unfold laws_has.f
 repeat' first
   |(with_reducible exact ih0 _ _ _)
   |(with_reducible exact LeO.refl _)
   |(with_reducible exact LeO.none _)
   |(with_reducible refine LeO.ite ?_ ?_)
   |(with_reducible refine LeO.bind ?_ (fun _ => ?_))
set_option maxHeartbeats 8000000 in
set_option maxRecDepth 100000 in
theorem laws_has.calls (k : Nat) (A0 : Option Addr) (c0 : Nat) (l0 : List ByteArray) (a1 : ByteArray) (r : Bool) (w : World) (hr0 : Kd.C Kd.string w A0 l0.length l0) (hc0 : l0.length ≤ c0) (h : laws_has.f k l0 a1 = some r) :
  Calls Try.prog 38 #[.slice A0 l0.length c0,.string a1] w fun e w' => e = .returned (.bool r) ∧ Drawn0 w w':=by
 have HR0:=zm_ hr0
 have HC0:=zm_ hc0
 clear hr0 hc0
 have H : (laws_has.l0 k l0 a1 0) = some r:=h
 clear h
 have H':=zm_ H
 clear H
 go_enter Try.func38,Try.ntmps38
 go_wp2
 go_loopg [5] k (fun kq v5 w' => ∃ (x5_1 : Int),v5 = .int .i64 x5_1 ∧ Aside0 (laws_has.l0 kq l0 a1 x5_1 = some r) ∧ Aside0 (kq ≤ k) ∧ Drawn0 w w')
 case atStart => exact ⟨(0),zV_,H',⟨Nat.le_refl _⟩,by repeat (first|exact Drawn0.refl _|apply Drawn0.step)⟩
 case round =>
  clear H'
  try clear p2
  obtain ⟨x5_1,rfl,HA,HK1,⟨m1,rfl⟩⟩:=hrel
  cases gk with
  |zero => exact absurd HA.out (by simp [laws_has.l0])
  |succ k1 =>
   have H:=HA.out
   clear HA
   simp only [laws_has.l0] at H
   by_cases c3 : x5_1 < (l0.length : Int)
   ·rw [if_pos c3] at H
    have c3b0 : decide (x5_1 < (l0.length : Int)) = true:=decide_eq_true c3
    clear c3
    by_cases c4 : 0 ≤ x5_1
    ·rw [if_pos c4] at H
     have c4b0 : decide (0 ≤ x5_1) = true:=decide_eq_true c4
     clear c4
     by_cases c5 : (rdOf ByteArray.empty l0 x5_1).toList = a1.toList
     ·rw [if_pos c5] at H
      have c5b0 : ((rdOf ByteArray.empty l0 x5_1).toList == a1.toList) = true:=beq_iff_eq.mpr c5
      have c5b1 : ((rdOf ByteArray.empty l0 x5_1).toList != a1.toList) = false:=bne_eq_false_iff_eq.mpr c5
      clear c5
      obtain rfl:=Option.some.inj H
      have p341 : 0 ≤ (x5_1 : Int):=zo_
      have q341 : x5_1 < (l0.length : Int):=zo_
      obtain ⟨ad341,e341,hx341_0⟩:=Kd.at_string HR0.out x5_1 p341 q341
      cases e341
      replace p341:=eq_true p341
      replace q341:=eq_true q341
      go_wp2
      go_ret
      exact ⟨by first|rfl|(simp;done)|(simp [*];done),by repeat (first|exact Drawn0.refl _|apply Drawn0.step)⟩
     ·rw [if_neg c5] at H
      have c5b0 : ((rdOf ByteArray.empty l0 x5_1).toList == a1.toList) = false:=beq_eq_false_iff_ne.mpr c5
      have c5b1 : ((rdOf ByteArray.empty l0 x5_1).toList != a1.toList) = true:=bne_iff_ne.mpr c5
      have H':=zm_ H
      clear H
      have p341 : 0 ≤ (x5_1 : Int):=zo_
      have q341 : x5_1 < (l0.length : Int):=zo_
      obtain ⟨ad341,e341,hx341_0⟩:=Kd.at_string HR0.out x5_1 p341 q341
      cases e341
      replace p341:=eq_true p341
      replace q341:=eq_true q341
      go_wp2
      go_roundg k1
      case measure => have:=HK1.out;omega
      case rel => exact ⟨(wrap64 (x5_1 + 1)),zV_,H',⟨by have:=HK1.out;omega⟩,by repeat (first|exact Drawn0.refl _|apply Drawn0.step)⟩
    ·rw [if_neg c4] at H
     exact absurd H (by simp)
   ·rw [if_neg c3] at H
    have c3b0 : decide (x5_1 < (l0.length : Int)) = false:=decide_eq_false c3
    clear c3
    obtain rfl:=Option.some.inj H
    go_wp2
    go_ret
    exact ⟨by first|rfl|(simp;done)|(simp [*];done),by repeat (first|exact Drawn0.refl _|apply Drawn0.step)⟩

end Go.Proofs.Ytnmhggdaccbbfaa.MFnExprFree
