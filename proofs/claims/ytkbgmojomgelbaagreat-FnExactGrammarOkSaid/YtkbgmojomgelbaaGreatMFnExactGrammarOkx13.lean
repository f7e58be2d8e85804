import Derived.Test.YtkbgmojomgelbaaGreatMFnExactGrammarOkx0
import Derived.Test.YtkbgmojomgelbaaGreatMFnExactGrammarOkx12
namespace Go.Proofs.YtkbgmojomgelbaaGreat.MFnExactGrammarOk
open Go.RowKit Go.Proofs.YtkbgmojomgelbaaGreatW.PrintWords Go.Proofs.YtkbgmojomgelbaaGreatW.PrintLast Go.Proofs.YtkbgmojomgelbaaGreatW.PrintMore
attribute [local go_sem] max2_int min2_int max_two min_two max_three min_three max_four min_four
set_option linter.unusedVariables false
set_option linter.unusedSimpArgs false
set_option maxHeartbeats 8000000
set_option maxRecDepth 100000

def impl_paramsOk.l0 : Nat → List ByteArray → List ByteArray → Int → Int → Option (Bool)
 |0,_,_,_,_ => none
 |k + 1,x0,x5,x6,x7 => if x7 < x6 then (if 0 ≤ x7 then (if x7 < (x5.length : Int) then ((impl_VarName.f k (rdOf ByteArray.empty x5 x7)).bind fun t345 => (if t345 = true then (if x7 > 0 then (if 0 ≤ (wrap64 (x7 - 1)) then (if (wrap64 (x7 - 1)) < (x0.length : Int) then (if ((Op.bytesLess ((rdOf ByteArray.empty x0 (wrap64 (x7 - 1))).toList) ((rdOf ByteArray.empty x5 x7).toList)) = true) then (impl_paramsOk.l0 k x0 x5 x6 (wrap64 (x7 + 1))) else (some false)) else (none)) else (none)) else (impl_paramsOk.l0 k x0 x5 x6 (wrap64 (x7 + 1)))) else (some false))) else (none)) else (none)) else (some (decide ((x0.length : Int) ≤ 6)))
def impl_paramsOk.f (k : Nat) (l0 : List ByteArray) : Option (Bool):=impl_paramsOk.l0 k l0 l0 (l0.length : Int) 0
theorem impl_paramsOk.calls (k : Nat) (A0 : Option Addr) (c0 : Nat) (l0 : List ByteArray) (r : Bool) (w : World) (hr0 : Kd.C Kd.string w A0 l0.length l0) (hc0 : l0.length ≤ c0) (h : impl_paramsOk.f k l0 = some r) :
  Calls Tryz.prog 23 #[.slice A0 l0.length c0] w fun e w' => e = .returned (.bool r) ∧ Drawn0 w w':=by
 have HR0:=zm_ hr0
 have HC0:=zm_ hc0
 clear hr0 hc0
 have H : (impl_paramsOk.l0 k l0 l0 (l0.length : Int) 0) = some r:=h
 clear h
 have H':=zm_ H
 clear H
 go_enter Tryz.func23,Tryz.ntmps23
 go_wp2
 go_loopg [7] k (fun kq v7 w' => ∃ (x7_1 : Int),v7 = .int .i64 x7_1 ∧ Aside0 (impl_paramsOk.l0 kq l0 l0 (l0.length : Int) x7_1 = some r) ∧ Aside0 (kq ≤ k) ∧ Drawn0 w w')
 case atStart => exact ⟨(0),zV_,H',⟨Nat.le_refl _⟩,by repeat (first|exact Drawn0.refl _|apply Drawn0.step)⟩
 case round =>
  clear H'
  obtain ⟨x7_1,rfl,HA,HK1,⟨m1,rfl⟩⟩:=hrel
  cases gk with
  |zero => exact absurd HA.out (by simp [impl_paramsOk.l0])
  |succ k1 =>
   have H:=HA.out
   clear HA
   simp only [impl_paramsOk.l0] at H
   by_cases c2 : x7_1 < (l0.length : Int)
   rotate_left
   ·rw [if_neg c2] at H
    have c2b0:=decide_eq_false c2
    clear c2
    obtain rfl:=zi_ H
    go_wp2
    go_ret
    exact zX_


   rw [if_pos c2] at H
   have c2b0:=decide_eq_true c2
   clear c2
   by_cases c3 : 0 ≤ x7_1
   rotate_left
   ·rw [if_neg c3] at H
    cases H
   rw [if_pos c3] at H
   have c3b0:=decide_eq_true c3
   clear c3
   by_cases c4 : x7_1 < (l0.length : Int)
   rotate_left
   ·rw [if_neg c4] at H
    cases H
   rw [if_pos c4] at H
   have c4b0:=decide_eq_true c4
   clear c4
   obtain ⟨t345,A5,H⟩:=zJ_ H
   try dsimp only at H
   by_cases c6 : t345 = true
   rotate_left
   ·replace c6:=Bool.eq_false_iff.mpr c6
    subst c6
    rw [zF_] at H
    obtain rfl:=zi_ H
    have p344 : 0 ≤ (x7_1 : Int):=zo_
    have q344 : x7_1 < (l0.length : Int):=zo_
    obtain ⟨ad344,e344,hx344_0⟩:=Kd.at_string HR0.out x7_1 p344 q344
    cases e344
    replace p344:=eq_true p344
    replace q344:=eq_true q344
    go_wp2_with (first|((with_reducible refine gate_callee (f:=42) rfl ?_);refine goesL_ (some 13) rfl rfl Tryz.func42 (by kernel_rfl) rfl #[.string (rdOf ByteArray.empty l0 x7_1)] rfl zq_ ?_;(with_reducible refine (impl_VarName.calls k1 (rdOf ByteArray.empty l0 x7_1) false _ A5.out).mono ?_);rintro e w' ⟨rfl,⟨nd,rfl⟩⟩;refine ⟨_,rfl,?_⟩))
    go_ret
    exact zX_
   subst c6
   rw [if_pos rfl] at H
   by_cases c7 : x7_1 > 0
   rotate_left
   ·rw [if_neg c7] at H
    have c7b0 : decide (0 < x7_1) = false:=decide_eq_false c7
    clear c7
    have H':=zm_ H
    clear H
    have p344 : 0 ≤ (x7_1 : Int):=zo_
    have q344 : x7_1 < (l0.length : Int):=zo_
    obtain ⟨ad344,e344,hx344_0⟩:=Kd.at_string HR0.out x7_1 p344 q344
    cases e344
    replace p344:=eq_true p344
    replace q344:=eq_true q344
    go_wp2_with (first|((with_reducible refine gate_callee (f:=42) rfl ?_);refine goesL_ (some 13) rfl rfl Tryz.func42 (by kernel_rfl) rfl #[.string (rdOf ByteArray.empty l0 x7_1)] rfl zq_ ?_;(with_reducible refine (impl_VarName.calls k1 (rdOf ByteArray.empty l0 x7_1) true _ A5.out).mono ?_);rintro e w' ⟨rfl,⟨nd,rfl⟩⟩;refine ⟨_,rfl,?_⟩))
    go_roundg k1
    case measure => have:=HK1.out;omega
    case rel => exact ⟨(wrap64 (x7_1 + 1)),zV_,H',⟨by have:=HK1.out;omega⟩,by repeat (first|exact Drawn0.refl _|apply Drawn0.step)⟩
   rw [if_pos c7] at H
   have c7b0 : decide (0 < x7_1) = true:=decide_eq_true c7
   clear c7
   obtain ⟨ji8,hji8⟩ : ∃ j_ : Int,(wrap64 (x7_1 - 1)) = j_:=⟨_,rfl⟩
   replace H : (if 0 ≤ (ji8) then (if (ji8) < (l0.length : Int) then (if ((Op.bytesLess ((rdOf ByteArray.empty l0 (ji8)).toList) ((rdOf ByteArray.empty l0 x7_1).toList)) = true) then (impl_paramsOk.l0 k1 l0 l0 (l0.length : Int) (wrap64 (x7_1 + 1))) else (some false)) else (none)) else (none)) = some r:=by first|(rw [hji8] at H;exact H)|(simp only [hji8] at H ⊢;exact H)
   (try rw [hji8] at A5)
   have hji8w : (IntKind.i64.wrap (x7_1 - 1)) = ji8:=(i64_w _).trans hji8
   by_cases c9 : 0 ≤ (ji8)
   rotate_left
   ·rw [if_neg c9] at H
    cases H
   rw [if_pos c9] at H
   have c9b0:=decide_eq_true c9
   clear c9
   by_cases c10 : (ji8) < (l0.length : Int)
   rotate_left
   ·rw [if_neg c10] at H
    cases H
   rw [if_pos c10] at H
   have c10b0:=decide_eq_true c10
   clear c10
   by_cases c11 : ((Op.bytesLess ((rdOf ByteArray.empty l0 (ji8)).toList) ((rdOf ByteArray.empty l0 x7_1).toList)) = true)
   rotate_left
   ·rw [if_neg c11] at H
    have c11b0 : (Op.bytesLess ((rdOf ByteArray.empty l0 (ji8)).toList) ((rdOf ByteArray.empty l0 x7_1).toList)) = false:=by simpa using c11
    clear c11
    obtain rfl:=zi_ H
    have p344 : 0 ≤ (x7_1 : Int):=zo_
    have q344 : x7_1 < (l0.length : Int):=zo_
    obtain ⟨ad344,e344,hx344_0⟩:=Kd.at_string HR0.out x7_1 p344 q344
    cases e344
    replace p344:=eq_true p344
    replace q344:=eq_true q344
    have p346 : 0 ≤ ((ji8) : Int):=zo_
    have q346 : (ji8) < (l0.length : Int):=zo_
    obtain ⟨ad346,e346,hx346_0⟩:=Kd.at_string HR0.out (ji8) p346 q346
    obtain rfl : ad344 = ad346:=(by injection e346)
    replace p346:=eq_true p346
    replace q346:=eq_true q346
    go_wp2_with (first|((with_reducible refine gate_callee (f:=42) rfl ?_);refine goesL_ (some 13) rfl rfl Tryz.func42 (by kernel_rfl) rfl #[.string (rdOf ByteArray.empty l0 x7_1)] rfl zq_ ?_;(with_reducible refine (impl_VarName.calls k1 (rdOf ByteArray.empty l0 x7_1) true _ A5.out).mono ?_);rintro e w' ⟨rfl,⟨nd,rfl⟩⟩;refine ⟨_,rfl,?_⟩))
    go_ret
    exact ⟨by first|rfl|(simp;done)|(simp only [← hji8] <;> (first|rfl|simp))|(simp [*];done),by repeat (first|exact Drawn0.refl _|apply Drawn0.step)⟩
   rw [if_pos c11] at H
   have c11b0 : (Op.bytesLess ((rdOf ByteArray.empty l0 (ji8)).toList) ((rdOf ByteArray.empty l0 x7_1).toList)) = true:=c11
   clear c11
   have H':=zm_ H
   clear H
   have p344 : 0 ≤ (x7_1 : Int):=zo_
   have q344 : x7_1 < (l0.length : Int):=zo_
   obtain ⟨ad344,e344,hx344_0⟩:=Kd.at_string HR0.out x7_1 p344 q344
   cases e344
   replace p344:=eq_true p344
   replace q344:=eq_true q344
   have p346 : 0 ≤ ((ji8) : Int):=zo_
   have q346 : (ji8) < (l0.length : Int):=zo_
   obtain ⟨ad346,e346,hx346_0⟩:=Kd.at_string HR0.out (ji8) p346 q346
   obtain rfl : ad344 = ad346:=(by injection e346)
   replace p346:=eq_true p346
   replace q346:=eq_true q346
   go_wp2_with (first|((with_reducible refine gate_callee (f:=42) rfl ?_);refine goesL_ (some 13) rfl rfl Tryz.func42 (by kernel_rfl) rfl #[.string (rdOf ByteArray.empty l0 x7_1)] rfl zq_ ?_;(with_reducible refine (impl_VarName.calls k1 (rdOf ByteArray.empty l0 x7_1) true _ A5.out).mono ?_);rintro e w' ⟨rfl,⟨nd,rfl⟩⟩;refine ⟨_,rfl,?_⟩))
   go_roundg k1
   case measure => have:=HK1.out;omega
   case rel => exact ⟨(wrap64 (x7_1 + 1)),zV_,H',⟨by have:=HK1.out;omega⟩,by repeat (first|exact Drawn0.refl _|apply Drawn0.step)⟩
def impl_copyTexts.f (l0 : List ByteArray) : Option (List ByteArray):=(some (([] : List ByteArray) : List ByteArray)).bind fun y347 => (if y347.length + l0.length < 8796093022208 then (some (y347 ++ l0)) else (none))
theorem impl_copyTexts.calls (A0 : Option Addr) (c0 : Nat) (l0 : List ByteArray) (r : List ByteArray) (w : World) (hr0 : Kd.C Kd.string w A0 l0.length l0) (hc0 : l0.length ≤ c0) (h : impl_copyTexts.f l0 = some r) :
  Calls Tryz.prog 43 #[.slice A0 l0.length c0] w fun e w' => ∃ v0_ : Value,e = .returned (v0_) ∧ Kd.R Kd.string 9 w' w.heap.size (fun _ => True) v0_ r ∧ Below w.heap.size w w':=by
 have HR0:=zm_ hr0
 have HC0:=zm_ hc0
 clear hr0 hc0
 have HB:=zm_ (Below.refl w.heap.size w)
 have H : ((some (([] : List ByteArray) : List ByteArray)).bind fun y347 => (if y347.length + l0.length < 8796093022208 then (some (y347 ++ l0)) else (none))) = some r:=h
 clear h
 obtain ⟨y347,hy347⟩ : ∃ y_ : List ByteArray,y_ = (([] : List ByteArray)):=⟨_,rfl⟩
 replace H : (if y347.length + l0.length < 8796093022208 then (some (y347 ++ l0)) else (none)) = some r:=by first|(rw [hy347];with_reducible exact H)|(have H2_:=(Option.bind_some _ _).symm.trans H;rw [hy347];with_reducible exact H2_)|(have H2_:=(Option.bind_some _ _).symm.trans H;with_reducible exact H2_)|with_reducible exact H|(rw [hy347];exact H)|exact H
 have Ny347:=zm_ hy347
 clear hy347
 by_cases c2 : y347.length + l0.length < 8796093022208
 rotate_left
 ·rw [if_neg c2] at H
  cases H


 rw [if_pos c2] at H
 have LMc2:=zm_ c2
 clear c2
 obtain ⟨y350,hy350⟩ : ∃ y_ : List ByteArray,y_ = (y347 ++ l0):=⟨_,rfl⟩
 replace H : (some y350) = some r:=by first|(rw [hy350];with_reducible exact H)|(have H2_:=(Option.bind_some _ _).symm.trans H;rw [hy350];with_reducible exact H2_)|(have H2_:=(Option.bind_some _ _).symm.trans H;with_reducible exact H2_)|with_reducible exact H|(rw [hy350];exact H)|exact H
 have Ny350:=zm_ hy350
 clear hy350
 obtain rfl:=zi_ H
 go_enter Tryz.func43,Tryz.ntmps43
 go_wp2_with (first|((with_reducible refine gate_dst (N:=3) rfl ?_);refine Kd.R_lit Kd.string _ 9 ?hg (N:=3) ?hd (xs:=([] : List ByteArray)) (inner:=[]) (ok:=fun _ => True) (okp:=fun _ => True) ?hr ?hp (fun _ hk => hk) trivial (Below.refl _ _) (Nat.le_refl _) (by simp) ?_;(case hd => rfl);(case hg => rfl);(case hr => first|(go_simp;done)|(go_simp;rfl));(case hp => exact (Reps.none _ _));intro v348 w3 ho4 hb hg_ hnew_;clear hg_ hnew_;(first|rw [← Ny347.out] at ho4|(simp only [Int.reduceToNat] at ho4;rw [← Ny347.out] at ho4));have n0_:=zm_ (Kd.R_lower ho4 (below_size zB_));have n1_:=zm_ (below_step zB_ hb);clear HB;have HO349:=n0_;have HB:=n1_;clear n0_ n1_;clear hb ho4)|((with_reducible refine gate_builtin (b:=.append) (xs:=#[.tmp 3,.tmp 4]) rfl ?_);at_builtin;refine Kd.R_append_rows Kd.string (w0:=w) w.heap.size rfl (.tmp 3) (.tmp 4) 46 9 (.string ⟨#[]⟩) 16 rfl Tryz.underlying46 info9 rfl (by decide) (by omega) v348 y347 l0 _ _ _ (fun _ => True) (fun _ => False) rfl rfl ?aO ?aR (fun _ _ h => h) (fun _ h => h.elim) ?aF ?aB ?aS ?aL ?_;(case aR => repeat (first|exact (Kd.C_below HR0.out HB.out)|(with_reducible refine Kd.C_alloc ?_ _)|(with_reducible refine Kd.C_drewN ?_ _)|(with_reducible refine Kd.C_drew ?_)));(case aB => exact zB_);(case aF => exact (fun _ _ => trivial));(case aO => exact (by (with_reducible repeat (first|apply Kd.R_alloc|apply Kd.R_drewN|apply Kd.R_drew));exact HO349.out));(case aS => exact (below_size zB_));(case aL => have:=LMc2.out;omega);intro v351 w5 ho hb hg hat;rw [← Ny350.out] at ho;have n0_:=zm_ (hb);have n1_:=zm_ (ho);clear HB;clear HO349;have HB:=n0_;have HO352:=n1_;clear n0_ n1_;clear ho hb hg hat))
 go_ret
 exact ⟨_,by first|rfl|(simp [errW_none,errW_some] <;> rfl)|(simp [*,errW_none,errW_some] <;> rfl),by (with_reducible repeat (first|apply Kd.R_alloc|apply Kd.R_drewN|apply Kd.R_drew));exact HO352.out,zG_⟩
def impl_isSetByte.f (a0 : Int) : Option (Bool):=(impl_isSmall.f a0).bind fun t353 => (if t353 = true then (some true) else ((impl_isFigure.f a0).bind fun t354 => (some t354)))
theorem impl_isSetByte.calls (a0 : Int) (r : Bool) (w : World) (h : impl_isSetByte.f a0 = some r) :
  Calls Tryz.prog 96 #[.int .u8 a0] w fun e w' => e = .returned (.bool r) ∧ Drawn0 w w':=by
 have H : ((impl_isSmall.f a0).bind fun t353 => (if t353 = true then (some true) else ((impl_isFigure.f a0).bind fun t354 => (some t354)))) = some r:=h
 clear h
 obtain ⟨t353,A2,H⟩:=zJ_ H
 try dsimp only at H
 by_cases c3 : t353 = true
 ·subst c3
  rw [if_pos rfl] at H
  obtain rfl:=zi_ H
  go_enter Tryz.func96,Tryz.ntmps96
  go_wp2_with (first|((with_reducible refine gate_callee (f:=72) rfl ?_);refine goesL_ (some 4) rfl rfl Tryz.func72 (by kernel_rfl) rfl #[.int .u8 a0] rfl zq_ ?_;(with_reducible refine (impl_isSmall.calls a0 true _ A2.out).mono ?_);rintro e w' ⟨rfl,⟨nd,rfl⟩⟩;refine ⟨_,rfl,?_⟩))
  go_ret
  exact zX_
 replace c3:=Bool.eq_false_iff.mpr c3
 subst c3
 rw [zF_] at H
 obtain ⟨t354,A4,H⟩:=zJ_ H
 try dsimp only at H
 obtain rfl:=zi_ H
 go_enter Tryz.func96,Tryz.ntmps96
 go_wp2_with (first|((with_reducible refine gate_callee (f:=72) rfl ?_);refine goesL_ (some 4) rfl rfl Tryz.func72 (by kernel_rfl) rfl #[.int .u8 a0] rfl zq_ ?_;(with_reducible refine (impl_isSmall.calls a0 false _ A2.out).mono ?_);rintro e w' ⟨rfl,⟨nd,rfl⟩⟩;refine ⟨_,rfl,?_⟩)|(go_at_call 39;(with_reducible refine (impl_isFigure.calls a0 t354 _ A4.out).mono ?_);rintro e w' ⟨rfl,⟨nd,rfl⟩⟩))
 go_ret
 exact zX_




def impl_textOk.l0 : Nat → ByteArray → Int → Int → Option (Bool)
 |0,_,_,_ => none
 |k + 1,x0,x5,x6 => if x6 < x5 then (if 0 ≤ x6 then (if x6 < (x0.size : Int) then ((impl_isSetByte.f (bt x0 x6)).bind fun t356 => (if t356 = true then (impl_textOk.l0 k x0 x5 (wrap64 (x6 + 1))) else ((strings_IndexByte.f (⟨#[43,45,42,94,40,41,91,93,58,44,59,46,61,60,62]⟩ : ByteArray) (bt x0 x6)).bind fun t357 => (if t357 < 0 then (some false) else (impl_textOk.l0 k x0 x5 (wrap64 (x6 + 1))))))) else (none)) else (none)) else ((impl_within.f (x0.size : Int) 1 8).bind fun t355 => (some t355))
def impl_textOk.f (k : Nat) (a0 : ByteArray) : Option (Bool):=impl_textOk.l0 k a0 (a0.size : Int) 0
theorem impl_textOk.calls (k : Nat) (a0 : ByteArray) (r : Bool) (w : World) (h : impl_textOk.f k a0 = some r) :
  Calls Tryz.prog 73 #[.string a0] w fun e w' => e = .returned (.bool r) ∧ Drawn0 w w':=by
 have H : (impl_textOk.l0 k a0 (a0.size : Int) 0) = some r:=h
 clear h
 have H':=zm_ H
 clear H
 go_enter Tryz.func73,Tryz.ntmps73
 go_wp2
 go_loopg [6] k (fun kq v6 w' => ∃ (x6_1 : Int),v6 = .int .i64 x6_1 ∧ Aside0 (impl_textOk.l0 kq a0 (a0.size : Int) x6_1 = some r) ∧ Aside0 (kq ≤ k) ∧ Drawn0 w w')
 case atStart => exact ⟨(0),zV_,H',⟨Nat.le_refl _⟩,by repeat (first|exact Drawn0.refl _|apply Drawn0.step)⟩
 case round =>
  clear H'
  obtain ⟨x6_1,rfl,HA,HK1,⟨m1,rfl⟩⟩:=hrel
  cases gk with
  |zero => exact absurd HA.out (by simp [impl_textOk.l0])
  |succ k1 =>
   have H:=HA.out
   clear HA
   simp only [impl_textOk.l0] at H
   by_cases c2 : x6_1 < (a0.size : Int)
   rotate_left
   ·rw [if_neg c2] at H
    have c2b0:=decide_eq_false c2
    clear c2
    obtain ⟨t355,A11,H⟩:=zJ_ H
    try dsimp only at H
    obtain rfl:=zi_ H
    go_wp2_with (first|((with_reducible refine gate_callee (f:=20) rfl ?_);refine goesL_ (some 24) rfl rfl Tryz.func20 (by kernel_rfl) rfl #[.int .i64 (a0.size : Int),.int .i64 1,.int .i64 8] rfl zq_ ?_;(with_reducible refine (impl_within.calls (a0.size : Int) 1 8 t355 _ A11.out).mono ?_);rintro e w' ⟨rfl,⟨nd,rfl⟩⟩;refine ⟨_,rfl,?_⟩))
    go_ret
    exact zX_



   rw [if_pos c2] at H
   have c2b0:=decide_eq_true c2
   clear c2
   by_cases c3 : 0 ≤ x6_1
   rotate_left
   ·rw [if_neg c3] at H
    cases H
   rw [if_pos c3] at H
   have c3b0:=decide_eq_true c3
   clear c3
   by_cases c4 : x6_1 < (a0.size : Int)
   rotate_left
   ·rw [if_neg c4] at H
    cases H
   rw [if_pos c4] at H
   have c4b0:=decide_eq_true c4
   clear c4
   obtain ⟨t356,A6,H⟩:=zJ_ H
   try dsimp only at H
   by_cases c7 : t356 = true
   ·subst c7
    rw [if_pos rfl] at H
    have H':=zm_ H
    clear H
    have p5 : 0 ≤ (x6_1 : Int):=zo_
    have q5 : x6_1 < (a0.size : Int):=zo_
    have hx5:=bt_at a0 x6_1
    replace p5:=eq_true p5
    replace q5:=eq_true q5
    go_wp2_with (first|((with_reducible refine gate_callee (f:=96) rfl ?_);refine goesL_ (some 12) rfl rfl Tryz.func96 (by kernel_rfl) rfl #[.int .u8 (bt a0 x6_1)] rfl zq_ ?_;(with_reducible refine (impl_isSetByte.calls (bt a0 x6_1) true _ A6.out).mono ?_);rintro e w' ⟨rfl,⟨nd,rfl⟩⟩;refine ⟨_,rfl,?_⟩))
    go_roundg k1
    case measure => have:=HK1.out;omega
    case rel => exact ⟨(wrap64 (x6_1 + 1)),zV_,H',⟨by have:=HK1.out;omega⟩,by repeat (first|exact Drawn0.refl _|apply Drawn0.step)⟩
   replace c7:=Bool.eq_false_iff.mpr c7
   subst c7
   rw [zF_] at H
   obtain ⟨t357,A9,H⟩:=zJ_ H
   try dsimp only at H
   by_cases c10 : t357 < 0
   ·rw [if_pos c10] at H
    have c10b0:=decide_eq_true c10
    clear c10
    obtain rfl:=zi_ H
    have p5 : 0 ≤ (x6_1 : Int):=zo_
    have q5 : x6_1 < (a0.size : Int):=zo_
    have hx5:=bt_at a0 x6_1
    replace p5:=eq_true p5
    replace q5:=eq_true q5
    have p8 : 0 ≤ (x6_1 : Int):=zo_
    have q8 : x6_1 < (a0.size : Int):=zo_
    have hx8:=bt_at a0 x6_1
    replace p8:=eq_true p8
    replace q8:=eq_true q8
    go_wp2_with (first|((with_reducible refine gate_callee (f:=96) rfl ?_);refine goesL_ (some 12) rfl rfl Tryz.func96 (by kernel_rfl) rfl #[.int .u8 (bt a0 x6_1)] rfl zq_ ?_;(with_reducible refine (impl_isSetByte.calls (bt a0 x6_1) false _ A6.out).mono ?_);rintro e w' ⟨rfl,⟨nd,rfl⟩⟩;refine ⟨_,rfl,?_⟩)|(go_at_call 97;(with_reducible refine (strings_IndexByte.calls (⟨#[43,45,42,94,40,41,91,93,58,44,59,46,61,60,62]⟩ : ByteArray) (bt a0 x6_1) t357 _ A9.out).mono ?_);rintro e w' ⟨rfl,⟨nd,rfl⟩⟩))
    go_ret
    exact zX_
   rw [if_neg c10] at H
   have c10b0:=decide_eq_false c10
   clear c10
   have H':=zm_ H
   clear H
   have p5 : 0 ≤ (x6_1 : Int):=zo_
   have q5 : x6_1 < (a0.size : Int):=zo_
   have hx5:=bt_at a0 x6_1
   replace p5:=eq_true p5
   replace q5:=eq_true q5
   have p8 : 0 ≤ (x6_1 : Int):=zo_
   have q8 : x6_1 < (a0.size : Int):=zo_
   have hx8:=bt_at a0 x6_1
   replace p8:=eq_true p8
   replace q8:=eq_true q8
   go_wp2_with (first|((with_reducible refine gate_callee (f:=96) rfl ?_);refine goesL_ (some 12) rfl rfl Tryz.func96 (by kernel_rfl) rfl #[.int .u8 (bt a0 x6_1)] rfl zq_ ?_;(with_reducible refine (impl_isSetByte.calls (bt a0 x6_1) false _ A6.out).mono ?_);rintro e w' ⟨rfl,⟨nd,rfl⟩⟩;refine ⟨_,rfl,?_⟩)|(go_at_call 97;(with_reducible refine (strings_IndexByte.calls (⟨#[43,45,42,94,40,41,91,93,58,44,59,46,61,60,62]⟩ : ByteArray) (bt a0 x6_1) t357 _ A9.out).mono ?_);rintro e w' ⟨rfl,⟨nd,rfl⟩⟩))
   go_roundg k1
   case measure => have:=HK1.out;omega
   case rel => exact ⟨(wrap64 (x6_1 + 1)),zV_,H',⟨by have:=HK1.out;omega⟩,by repeat (first|exact Drawn0.refl _|apply Drawn0.step)⟩
def slices_Sort_byte_byte.f (l0 : List Int) : Option (List Int):=if l0.length < 4611686018427387904 then some (Srt.msort l0) else none
theorem slices_Sort_byte_byte.calls (P0_ : Nat → Prop) (u9000_ : Value) (l0 : List Int) (r : List Int) (w0 w : World) (hB : Below w0.heap.size w0 w) (ho0 : Kd.R (Kd.int .u8) 5 w w0.heap.size P0_ u9000_ l0) (h : slices_Sort_byte_byte.f l0 = some r) :
  Calls Tryz.prog 121 #[u9000_] w fun e w' => e = .returned (.tuple #[]) ∧ Kd.R (Kd.int .u8) 5 w' w0.heap.size (fun k_ => (P0_ k_ ∨ w.heap.size ≤ k_)) u9000_ r ∧ Below w0.heap.size w0 w' ∧ Kept w w' (fun k_ => P0_ k_):=by
 unfold slices_Sort_byte_byte.f at h
 by_cases hl : l0.length < 4611686018427387904
 rotate_left
 ·rw [if_neg hl] at h
  cases h



 rw [if_pos hl] at h
 obtain rfl:=Option.some.inj h
 exact Srt.sort_own P0_ u9000_ l0 w0 w hB ho0 hl
def slices_Compact_byte_byte.f (l0 : List Int) : Option (List Int):=if l0.length < 4611686018427387904 then some (Srt.dd l0) else none
theorem slices_Compact_byte_byte.calls (P0_ : Nat → Prop) (u9000_ : Value) (l0 : List Int) (r : List Int) (w0 w : World) (hB : Below w0.heap.size w0 w) (ho0 : Kd.R (Kd.int .u8) 5 w w0.heap.size P0_ u9000_ l0) (h : slices_Compact_byte_byte.f l0 = some r) :
  Calls Tryz.prog 122 #[u9000_] w fun e w' => ∃ v0_ : Value,e = .returned (v0_) ∧ Kd.R (Kd.int .u8) 5 w' w0.heap.size (fun k_ => (P0_ k_ ∨ w.heap.size ≤ k_)) v0_ r ∧ Below w0.heap.size w0 w' ∧ Kept w w' (fun k_ => P0_ k_):=by
 unfold slices_Compact_byte_byte.f at h
 by_cases hl : l0.length < 4611686018427387904
 rotate_left
 ·rw [if_neg hl] at h
  cases h


 rw [if_pos hl] at h
 obtain rfl:=Option.some.inj h
 exact Srt.compact_own P0_ u9000_ l0 w0 w hB ho0 hl
end Go.Proofs.YtkbgmojomgelbaaGreat.MFnExactGrammarOk
