import Derived.Test.YtnmhggdaccbbfaaMFnExprWrongx0
import Derived.Test.YtnmhggdaccbbfaaMFnExprWrongx1
import Derived.Test.YtnmhggdaccbbfaaMFnExprWrongx2
import Derived.Test.YtnmhggdaccbbfaaMFnExprWrongx4
import Derived.Test.YtnmhggdaccbbfaaMFnExprWrongx7
import Derived.Test.YtnmhggdaccbbfaaMFnExprWrongx8
namespace Go.Proofs.Ytnmhggdaccbbfaa.MFnExprWrong
open Go.RowKit Go.Proofs.YtnmhggdaccbbfaaW.PrintWords Go.Proofs.YtnmhggdaccbbfaaW.PrintLast Go.Proofs.YtnmhggdaccbbfaaW.PrintMore
attribute [local go_sem] max2_int min2_int max_two min_two max_three min_three max_four min_four
set_option linter.unusedVariables false
set_option linter.unusedSimpArgs false
theorem zt9_33 {p : Prop} (h : p := by (with_reducible repeat first|refine zl_ ?_ _|refine zr_ ?_|refine zk_ ?_ _);refine blk_put (cs:=#[.slice none 0 0]) ?_ 0 _ rfl;(with_reducible repeat first|refine zl_ ?_ _|refine zr_ ?_|refine zk_ ?_ _);exact BK341.out) : p := h
theorem zt9_32 {p : Prop} (h : p := by (with_reducible repeat (first|apply Kd.R_alloc|apply Kd.R_drewN|apply Kd.R_drew));exact (Kd.R_mono (Kd.R_far (p:=⟨gb341,0,none⟩) (Kd.R_types HO337.out BK341.out (by decide)) (fun _ hk => hk.2) (.slice Ao74 y354.length co74)) (fun _ h_ => h_.1))) : p := h
theorem zt9_31 {p : Prop} (h : p := by (with_reducible repeat (first|apply Kd.R_alloc|apply Kd.R_drewN|apply Kd.R_drew));exact (Kd.R_mono (Kd.R_far (p:=⟨gb341,0,none⟩) (Kd.R_types HO329.out BK341.out (by decide)) (fun _ hk => hk.2) (.slice Ao74 y354.length co74)) (fun _ h_ => h_.1))) : p := h
theorem zt9_30 {p : Prop} (h : p := by (with_reducible repeat (first|apply Kd.R_alloc|apply Kd.R_drewN|apply Kd.R_drew));exact (Kd.R_mono (Kd.R_far (p:=⟨gb341,0,none⟩) (Kd.R_types HO321.out BK341.out (by decide)) (fun _ hk => hk.2) (.slice Ao74 y354.length co74)) (fun _ h_ => h_.1))) : p := h
theorem zt9_29 {p : Prop} (h : p := by (with_reducible repeat (first|apply Kd.R_alloc|apply Kd.R_drewN|apply Kd.R_drew));exact (Kd.R_mono (Kd.R_far (p:=⟨gb341,0,none⟩) (Kd.R_types HO312.out BK341.out (by decide)) (fun _ hk => hk.2) (.slice Ao74 y354.length co74)) (fun _ h_ => h_.1))) : p := h
theorem zt9_28 {p : Prop} (h : p := by (with_reducible repeat (first|apply Kd.R_alloc|apply Kd.R_drewN|apply Kd.R_drew));exact (Kd.R_mono (Kd.R_far (p:=⟨gb341,0,none⟩) (Kd.R_types HO337.out BK341.out (by decide)) (fun _ hk => hk.2) (.slice Ao32 t306.length co32)) (fun _ h_ => h_.1))) : p := h
theorem zt9_27 {p : Prop} (h : p := by (with_reducible repeat (first|apply Kd.R_alloc|apply Kd.R_drewN|apply Kd.R_drew));exact (Kd.R_mono (Kd.R_far (p:=⟨gb341,0,none⟩) (Kd.R_types HO329.out BK341.out (by decide)) (fun _ hk => hk.2) (.slice Ao32 t306.length co32)) (fun _ h_ => h_.1))) : p := h
theorem zt9_26 {p : Prop} (h : p := by (with_reducible repeat (first|apply Kd.R_alloc|apply Kd.R_drewN|apply Kd.R_drew));exact (Kd.R_mono (Kd.R_far (p:=⟨gb341,0,none⟩) (Kd.R_types HO321.out BK341.out (by decide)) (fun _ hk => hk.2) (.slice Ao32 t306.length co32)) (fun _ h_ => h_.1))) : p := h
theorem zt9_25 {p : Prop} (h : p := by (with_reducible repeat (first|apply Kd.R_alloc|apply Kd.R_drewN|apply Kd.R_drew));exact (Kd.R_mono (Kd.R_far (p:=⟨gb341,0,none⟩) (Kd.R_types HO312.out BK341.out (by decide)) (fun _ hk => hk.2) (.slice Ao32 t306.length co32)) (fun _ h_ => h_.1))) : p := h
theorem zt9_24 {p : Prop} (h : p := by (with_reducible repeat (first|apply Kd.R_alloc|apply Kd.R_drewN|apply Kd.R_drew));exact (Kd.R_mono (Kd.R_far (p:=⟨gb341,0,none⟩) (Kd.R_types HO305.out BK341.out (by decide)) (fun _ hk => hk.2) (.slice Ao32 t306.length co32)) (fun _ h_ => h_.1))) : p := h
theorem zt9_23 {p : Prop} (h : p := by (with_reducible repeat (first|apply Kd.N_alloc|apply Kd.N_drewN|apply Kd.N_drew));exact (Kd.N_mono (Kd.N_far (p:=⟨gb341,0,none⟩) (Kd.N_mono HO334.out (fun k_ hk => (⟨hk,hk.2⟩ : _ ∧ k_ ≠ gb341))) (fun _ hk => hk.2) (.slice Ao32 t306.length co32)) (fun _ h_ => h_.1))) : p := h
theorem zt9_22 {p : Prop} (h : p := by (with_reducible repeat (first|apply Kd.N_alloc|apply Kd.N_drewN|apply Kd.N_drew));exact (Kd.N_mono (Kd.N_far (p:=⟨gb341,0,none⟩) (Kd.N_mono HO326.out (fun k_ hk => (⟨hk,hk.2⟩ : _ ∧ k_ ≠ gb341))) (fun _ hk => hk.2) (.slice Ao32 t306.length co32)) (fun _ h_ => h_.1))) : p := h
theorem zt9_21 {p : Prop} (h : p := by (with_reducible repeat (first|apply Kd.N_alloc|apply Kd.N_drewN|apply Kd.N_drew));exact (Kd.N_mono (Kd.N_far (p:=⟨gb341,0,none⟩) (Kd.N_mono HO318.out (fun k_ hk => (⟨hk,hk.2⟩ : _ ∧ k_ ≠ gb341))) (fun _ hk => hk.2) (.slice Ao32 t306.length co32)) (fun _ h_ => h_.1))) : p := h
theorem zt9_20 {p : Prop} (h : p := by (with_reducible repeat (first|apply Kd.N_alloc|apply Kd.N_drewN|apply Kd.N_drew));exact (Kd.N_mono (Kd.N_far (p:=⟨gb341,0,none⟩) (Kd.N_mono HO308.out (fun k_ hk => (⟨hk,hk.2⟩ : _ ∧ k_ ≠ gb341))) (fun _ hk => hk.2) (.slice Ao32 t306.length co32)) (fun _ h_ => h_.1))) : p := h
theorem zt9_19 {p : Prop} (h : p := by (with_reducible repeat (first|apply Kd.N_alloc|apply Kd.N_drewN|apply Kd.N_drew));exact HO344.out) : p := h
theorem zt9_18 {p : Prop} (h : p := by (with_reducible repeat first|refine zl_ ?_ _|refine zr_ ?_|refine zk_ ?_ _);refine blk_far ?_ NB309_341.out _;(with_reducible repeat first|refine zl_ ?_ _|refine zr_ ?_|refine zk_ ?_ _);exact BK309.out) : p := h
theorem zt9_17 {p : Prop} (h : p := by (with_reducible repeat (first|apply Kd.R_alloc|apply Kd.R_drewN|apply Kd.R_drew));exact HO359.out) : p := h
theorem zt9_16 {p : Prop} (h : p := by (with_reducible repeat (first|apply Kd.N_alloc|apply Kd.N_drewN|apply Kd.N_drew));exact HO356.out) : p := h
theorem zt9_15 {p : Prop} (h : p := by (with_reducible repeat (first|apply Kd.N_alloc|apply Kd.N_drewN|apply Kd.N_drew));exact HO353.out) : p := h
theorem zt9_14 {p : Prop} (h : p := by (with_reducible repeat (first|apply Kd.N_alloc|apply Kd.N_drewN|apply Kd.N_drew));exact HO347.out) : p := h
theorem zt9_13 {p : Prop} (h : p := by (with_reducible repeat (first|apply Kd.N_alloc|apply Kd.N_drewN|apply Kd.N_drew));exact HO334.out) : p := h
theorem zt9_12 {p : Prop} (h : p := by (with_reducible repeat first|refine zl_ ?_ _|refine zr_ ?_|refine zk_ ?_ _);exact BK341.out) : p := h
theorem zt9_11 {p : Prop} (h : p := by (with_reducible repeat (first|apply Kd.R_alloc|apply Kd.R_drewN|apply Kd.R_drew));exact HO337.out) : p := h
theorem zt9_10 {p : Prop} (h : p := by (with_reducible repeat (first|apply Kd.N_alloc|apply Kd.N_drewN|apply Kd.N_drew));exact HO326.out) : p := h
theorem zt9_9 {p : Prop} (h : p := by (with_reducible repeat (first|apply Kd.R_alloc|apply Kd.R_drewN|apply Kd.R_drew));exact HO329.out) : p := h
theorem zt9_8 {p : Prop} (h : p := by (with_reducible repeat (first|apply Kd.N_alloc|apply Kd.N_drewN|apply Kd.N_drew));exact HO318.out) : p := h
theorem zt9_7 {p : Prop} (h : p := by (with_reducible repeat (first|apply Kd.N_alloc|apply Kd.N_drewN|apply Kd.N_drew));exact HO308.out) : p := h
theorem zt9_6 {p : Prop} (h : p := by (with_reducible repeat (first|apply Kd.R_alloc|apply Kd.R_drewN|apply Kd.R_drew));exact HO321.out) : p := h
theorem zt9_5 {p : Prop} (h : p := by repeat (first|(with_reducible first|exact HB.out|apply za_|apply zn_|apply zd_|refine zs_ ?_ GE309.out)|exact HB.out)) : p := h
theorem zt9_4 {p : Prop} (h : p := by repeat (first|(with_reducible first|exact HB.out|apply za_|apply zn_|apply zd_|refine zs_ ?_ GE309.out|refine zs_ ?_ GE341.out)|exact HB.out)) : p := h
theorem zt9_3 {p : Prop} (h : p := by (with_reducible repeat first|refine zl_ ?_ _|refine zr_ ?_|refine zk_ ?_ _);exact BK309.out) : p := h
theorem zt9_2 {p : Prop} (h : p := by (with_reducible repeat (first|apply Kd.R_alloc|apply Kd.R_drewN|apply Kd.R_drew));exact HO312.out) : p := h
theorem zt9_1 {p : Prop} (h : p := by (with_reducible repeat (first|apply Kd.R_alloc|apply Kd.R_drewN|apply Kd.R_drew));exact HO305.out) : p := h

def laws_FnExprWrong.f (k : Nat) (l0 : List Int) : Option (Bool):=(laws_big.f l0).bind fun t302 => (if t302 = true then (some true) else ((spec_DrawPlaces.f k l0).bind fun t303 => ((laws_twoOf.f 6 99 99).bind fun t306 => ((impl_EvalExpr.f k t306 (([] : List (S87))) 0).bind fun bt313 => (if 0 < (t303.length : Int) then ((laws_twoOf.f 7 (Int.tmod (rd t303 0) 100) 0).bind fun t316 => ((impl_EvalExpr.f k t316 (([] : List (S87))) 0).bind fun bt322 => ((impl_EvalExpr.f k (([(⟨2,0,(⟨#[97]⟩ : ByteArray),([] : List Int)⟩ : S34)] : List (S34))) (([] : List (S87))) 0).bind fun bt330 => (if 1 < (t303.length : Int) then ((impl_EvalExpr.f k (([(⟨3,0,(⟨#[]⟩ : ByteArray),([] : List Int)⟩ : S34)] : List (S34))) (([] : List (S87))) (Int.tmod (rd t303 1) 12)).bind fun bt339 => ((some (([] : List (S34)) : List (S34))).bind fun y342 => (if y342.length + t306.length < 2513169434916 then ((some (y342 ++ t306 : List (S34))).bind fun y345 => ((some (([(⟨1,99,(⟨#[]⟩ : ByteArray),([] : List Int)⟩ : S34),(⟨6,0,(⟨#[]⟩ : ByteArray),(([2,3] : List Int))⟩ : S34)] : List (S34)) : List (S34))).bind fun y351 => (if y345.length + y351.length < 2513169434916 then ((impl_EvalExpr.f k (y345 ++ y351) (([] : List (S87))) 0).bind fun bt360 => ((spec_DrawExprOk.f k l0).bind fun t362 => (if bt313.2 = true then (if bt313.1 = 9801 then (if bt322.2 = true then (none) else (if bt322.1 = 0 then (if bt330.2 = true then (none) else (if bt330.1 = 0 then (if bt339.2 = true then (if bt339.1 = (Int.tmod (rd t303 1) 12) then (if bt360.2 = true then (none) else (if bt360.1 = 0 then ((impl_ExprOk.f k t362).bind fun t367 => ((spec_ExprOk.f k t362).bind fun t368 => (some (t367 == t368)))) else (none))) else (none)) else (none)) else (none))) else (none))) else (none)) else (none)))) else (none)))) else (none)))) else (none))))) else (none))))))
theorem laws_FnExprWrong.mono : ∀ a0 k,LeO (laws_FnExprWrong.f k a0) (laws_FnExprWrong.f (k + 1) a0):=by
 intro a0 k
 unfold laws_FnExprWrong.f
 repeat' first
   |(with_reducible exact impl_EvalExpr.mono _ _ _ _)
   |(with_reducible exact impl_ExprOk.mono _ _)
   |(with_reducible exact spec_DrawExprOk.mono _ _)
   |(with_reducible exact spec_DrawPlaces.mono _ _)
   |(with_reducible exact spec_ExprOk.mono _ _)
   |(with_reducible exact LeO.refl _)
   |(with_reducible exact LeO.none _)
   |(with_reducible refine LeO.ite ?_ ?_)
   |(with_reducible refine LeO.bind ?_ (fun _ => ?_))
def laws_FnExprWrong.T13 : Bool × List (List Nat × List Nat):=(true,[([],[]),([0],[0]),([1],[1]),([2,1],[1,2]),([1,3],[1,3]),([4,1],[4]),([5],[5]),([6,5],[5,6]),([5,7],[5,7]),([8,5],[8]),([9],[9]),([10,9],[9,10]),([9,11],[9,11]),([12,9],[12]),([13],[13]),([14,13],[13,14]),([13,15],[13,15]),([16,13],[16]),([17],[17]),([18,17],[17,18]),([17,19],[17,19]),([20,17],[20]),([21],[21]),([21,22],[21,22]),([23,21],[23]),([24],[24]),([24],[24]),([26,24],[24,26]),([27,24],[24,27]),([28,24],[24,28]),([25,29,24],[24,25,29]),([24,30],[24,30]),([31,24],[31]),([32],[32]),([33,32],[32,33]),([32,34],[32,34]),([35,32],[35]),([36],[36]),([37,36],[36,37]),([36,38],[36,38]),([39,36],[39]),([40],[40]),([41,40,40],[40,41]),([40],[40]),([43,42,40],[40,43]),([42,44,40],[40,42,44]),([40,45],[40,45]),([46,44,0,1,2,3,4,5,6,7,8,9,10,11,12,13,14,15,16,17,18,19,20,21,22,23,24,25,26,27,28,29,30,31,32,33,34,35,36,37,38,39,40,41,42,43,44,45,46],[46])])
def laws_FnExprWrong.B13 : List Nat:=[0,1,3,7,15,31,63,127,255,511,1023,2047,4095,8191,16383,32767,65535,131071,262143,524287,1048575,2097151,4194303,8388607,16777215,33554431,33554431,100663295,234881023,503316479,1073741823,2147483647,4294967295,8589934591,17179869183,34359738367,68719476735,137438953471,274877906943,549755813887,1099511627775,2199023255551,4398046511103,2199023255551,17592186044415,35184372088831,70368744177663,140737488355327]
theorem laws_FnExprWrong.tab13 : rtab .any (opsOf Try.f3 13) = laws_FnExprWrong.T13:=by kernel_rfl
theorem laws_FnExprWrong.bits13 : waitsOk laws_FnExprWrong.T13.2 laws_FnExprWrong.B13 = true:=by kernel_rfl
set_option maxHeartbeats 8000000 in
set_option maxRecDepth 100000 in
theorem laws_FnExprWrong.calls (k : Nat) (A0 : Option Addr) (c0 : Nat) (l0 : List Int) (r : Bool) (w : World) (hr0 : Kd.C (Kd.int .u8) w A0 l0.length l0) (hc0 : l0.length ≤ c0) (h : laws_FnExprWrong.f k l0 = some r) :
  Calls Try.prog 3 #[.slice A0 l0.length c0] w fun e w' => e = .returned (.bool r) ∧ Below w.heap.size w w':=by
 have hu28:=Try.underlying28
 have hu34:=Try.underlying34
 have HR0:=zm_ hr0
 have HC0:=zm_ hc0
 clear hr0 hc0
 have HB:=zm_ (Below.refl w.heap.size w)
 have H : ((laws_big.f l0).bind fun t302 => (if t302 = true then (some true) else ((spec_DrawPlaces.f k l0).bind fun t303 => ((laws_twoOf.f 6 99 99).bind fun t306 => ((impl_EvalExpr.f k t306 (([] : List (S87))) 0).bind fun bt313 => (if 0 < (t303.length : Int) then ((laws_twoOf.f 7 (Int.tmod (rd t303 0) 100) 0).bind fun t316 => ((impl_EvalExpr.f k t316 (([] : List (S87))) 0).bind fun bt322 => ((impl_EvalExpr.f k (([(⟨2,0,(⟨#[97]⟩ : ByteArray),([] : List Int)⟩ : S34)] : List (S34))) (([] : List (S87))) 0).bind fun bt330 => (if 1 < (t303.length : Int) then ((impl_EvalExpr.f k (([(⟨3,0,(⟨#[]⟩ : ByteArray),([] : List Int)⟩ : S34)] : List (S34))) (([] : List (S87))) (Int.tmod (rd t303 1) 12)).bind fun bt339 => ((some (([] : List (S34)) : List (S34))).bind fun y342 => (if y342.length + t306.length < 2513169434916 then ((some (y342 ++ t306 : List (S34))).bind fun y345 => ((some (([(⟨1,99,(⟨#[]⟩ : ByteArray),([] : List Int)⟩ : S34),(⟨6,0,(⟨#[]⟩ : ByteArray),(([2,3] : List Int))⟩ : S34)] : List (S34)) : List (S34))).bind fun y351 => (if y345.length + y351.length < 2513169434916 then ((impl_EvalExpr.f k (y345 ++ y351) (([] : List (S87))) 0).bind fun bt360 => ((spec_DrawExprOk.f k l0).bind fun t362 => (if bt313.2 = true then (if bt313.1 = 9801 then (if bt322.2 = true then (none) else (if bt322.1 = 0 then (if bt330.2 = true then (none) else (if bt330.1 = 0 then (if bt339.2 = true then (if bt339.1 = (Int.tmod (rd t303 1) 12) then (if bt360.2 = true then (none) else (if bt360.1 = 0 then ((impl_ExprOk.f k t362).bind fun t367 => ((spec_ExprOk.f k t362).bind fun t368 => (some (t367 == t368)))) else (none))) else (none)) else (none)) else (none))) else (none))) else (none)) else (none)))) else (none)))) else (none)))) else (none))))) else (none))))))) = some r:=h
 clear h
 replace H:=Option.bind_eq_some_iff.mp H
 obtain ⟨t302,A20,H⟩:=H
 replace H : (if t302 = true then (some true) else ((spec_DrawPlaces.f k l0).bind fun t303 => ((laws_twoOf.f 6 99 99).bind fun t306 => ((impl_EvalExpr.f k t306 (([] : List (S87))) 0).bind fun bt313 => (if 0 < (t303.length : Int) then ((laws_twoOf.f 7 (Int.tmod (rd t303 0) 100) 0).bind fun t316 => ((impl_EvalExpr.f k t316 (([] : List (S87))) 0).bind fun bt322 => ((impl_EvalExpr.f k (([(⟨2,0,(⟨#[97]⟩ : ByteArray),([] : List Int)⟩ : S34)] : List (S34))) (([] : List (S87))) 0).bind fun bt330 => (if 1 < (t303.length : Int) then ((impl_EvalExpr.f k (([(⟨3,0,(⟨#[]⟩ : ByteArray),([] : List Int)⟩ : S34)] : List (S34))) (([] : List (S87))) (Int.tmod (rd t303 1) 12)).bind fun bt339 => ((some (([] : List (S34)) : List (S34))).bind fun y342 => (if y342.length + t306.length < 2513169434916 then ((some (y342 ++ t306 : List (S34))).bind fun y345 => ((some (([(⟨1,99,(⟨#[]⟩ : ByteArray),([] : List Int)⟩ : S34),(⟨6,0,(⟨#[]⟩ : ByteArray),(([2,3] : List Int))⟩ : S34)] : List (S34)) : List (S34))).bind fun y351 => (if y345.length + y351.length < 2513169434916 then ((impl_EvalExpr.f k (y345 ++ y351) (([] : List (S87))) 0).bind fun bt360 => ((spec_DrawExprOk.f k l0).bind fun t362 => (if bt313.2 = true then (if bt313.1 = 9801 then (if bt322.2 = true then (none) else (if bt322.1 = 0 then (if bt330.2 = true then (none) else (if bt330.1 = 0 then (if bt339.2 = true then (if bt339.1 = (Int.tmod (rd t303 1) 12) then (if bt360.2 = true then (none) else (if bt360.1 = 0 then ((impl_ExprOk.f k t362).bind fun t367 => ((spec_ExprOk.f k t362).bind fun t368 => (some (t367 == t368)))) else (none))) else (none)) else (none)) else (none))) else (none))) else (none)) else (none)))) else (none)))) else (none)))) else (none))))) else (none)))))) = some r:=H
 have A2:=zm_ A20
 clear A20
 by_cases c3 : t302 = true
 ·subst c3
  have H1 : (some true) = some r:=by rw [if_pos rfl] at H;exact H
  clear H
  have H:=H1
  clear H1
  obtain rfl:=Option.some.inj H
  go_enter Try.func3,Try.ntmps3
  go_wp2_with (first|((with_reducible refine gate_callee (f:=9) rfl ?_);refine goesL_ (some 18) rfl rfl Try.func9 (by kernel_rfl) rfl #[.slice A0 l0.length c0] rfl zq_ ?_;(with_reducible refine (laws_big.calls _ _ l0 true _ ?side1 ?side2 A2.out).mono ?_);(case side1 => exact zC_);(case side2 => exact HC0.out);rintro e w' ⟨rfl,⟨nd,rfl⟩⟩;refine ⟨_,rfl,?_⟩))
  go_ret
  exact ⟨zE_,by repeat (first|(with_reducible first|exact HB.out|apply za_|apply zn_|apply zd_)|exact HB.out)⟩
 ·replace c3:=Bool.eq_false_iff.mpr c3
  subst c3
  have H1 : ((spec_DrawPlaces.f k l0).bind fun t303 => ((laws_twoOf.f 6 99 99).bind fun t306 => ((impl_EvalExpr.f k t306 (([] : List (S87))) 0).bind fun bt313 => (if 0 < (t303.length : Int) then ((laws_twoOf.f 7 (Int.tmod (rd t303 0) 100) 0).bind fun t316 => ((impl_EvalExpr.f k t316 (([] : List (S87))) 0).bind fun bt322 => ((impl_EvalExpr.f k (([(⟨2,0,(⟨#[97]⟩ : ByteArray),([] : List Int)⟩ : S34)] : List (S34))) (([] : List (S87))) 0).bind fun bt330 => (if 1 < (t303.length : Int) then ((impl_EvalExpr.f k (([(⟨3,0,(⟨#[]⟩ : ByteArray),([] : List Int)⟩ : S34)] : List (S34))) (([] : List (S87))) (Int.tmod (rd t303 1) 12)).bind fun bt339 => ((some (([] : List (S34)) : List (S34))).bind fun y342 => (if y342.length + t306.length < 2513169434916 then ((some (y342 ++ t306 : List (S34))).bind fun y345 => ((some (([(⟨1,99,(⟨#[]⟩ : ByteArray),([] : List Int)⟩ : S34),(⟨6,0,(⟨#[]⟩ : ByteArray),(([2,3] : List Int))⟩ : S34)] : List (S34)) : List (S34))).bind fun y351 => (if y345.length + y351.length < 2513169434916 then ((impl_EvalExpr.f k (y345 ++ y351) (([] : List (S87))) 0).bind fun bt360 => ((spec_DrawExprOk.f k l0).bind fun t362 => (if bt313.2 = true then (if bt313.1 = 9801 then (if bt322.2 = true then (none) else (if bt322.1 = 0 then (if bt330.2 = true then (none) else (if bt330.1 = 0 then (if bt339.2 = true then (if bt339.1 = (Int.tmod (rd t303 1) 12) then (if bt360.2 = true then (none) else (if bt360.1 = 0 then ((impl_ExprOk.f k t362).bind fun t367 => ((spec_ExprOk.f k t362).bind fun t368 => (some (t367 == t368)))) else (none))) else (none)) else (none)) else (none))) else (none))) else (none)) else (none)))) else (none)))) else (none)))) else (none))))) else (none))))) = some r:=by rw [if_neg (show ¬ (false = true) by decide)] at H;exact H
  clear H
  have H:=H1
  clear H1
  replace H:=Option.bind_eq_some_iff.mp H
  obtain ⟨t303,A40,H⟩:=H
  replace H : ((laws_twoOf.f 6 99 99).bind fun t306 => ((impl_EvalExpr.f k t306 (([] : List (S87))) 0).bind fun bt313 => (if 0 < (t303.length : Int) then ((laws_twoOf.f 7 (Int.tmod (rd t303 0) 100) 0).bind fun t316 => ((impl_EvalExpr.f k t316 (([] : List (S87))) 0).bind fun bt322 => ((impl_EvalExpr.f k (([(⟨2,0,(⟨#[97]⟩ : ByteArray),([] : List Int)⟩ : S34)] : List (S34))) (([] : List (S87))) 0).bind fun bt330 => (if 1 < (t303.length : Int) then ((impl_EvalExpr.f k (([(⟨3,0,(⟨#[]⟩ : ByteArray),([] : List Int)⟩ : S34)] : List (S34))) (([] : List (S87))) (Int.tmod (rd t303 1) 12)).bind fun bt339 => ((some (([] : List (S34)) : List (S34))).bind fun y342 => (if y342.length + t306.length < 2513169434916 then ((some (y342 ++ t306 : List (S34))).bind fun y345 => ((some (([(⟨1,99,(⟨#[]⟩ : ByteArray),([] : List Int)⟩ : S34),(⟨6,0,(⟨#[]⟩ : ByteArray),(([2,3] : List Int))⟩ : S34)] : List (S34)) : List (S34))).bind fun y351 => (if y345.length + y351.length < 2513169434916 then ((impl_EvalExpr.f k (y345 ++ y351) (([] : List (S87))) 0).bind fun bt360 => ((spec_DrawExprOk.f k l0).bind fun t362 => (if bt313.2 = true then (if bt313.1 = 9801 then (if bt322.2 = true then (none) else (if bt322.1 = 0 then (if bt330.2 = true then (none) else (if bt330.1 = 0 then (if bt339.2 = true then (if bt339.1 = (Int.tmod (rd t303 1) 12) then (if bt360.2 = true then (none) else (if bt360.1 = 0 then ((impl_ExprOk.f k t362).bind fun t367 => ((spec_ExprOk.f k t362).bind fun t368 => (some (t367 == t368)))) else (none))) else (none)) else (none)) else (none))) else (none))) else (none)) else (none)))) else (none)))) else (none)))) else (none))))) else (none)))) = some r:=H
  have A4:=zm_ A40
  clear A40
  replace H:=Option.bind_eq_some_iff.mp H
  obtain ⟨t306,A50,H⟩:=H
  replace H : ((impl_EvalExpr.f k t306 (([] : List (S87))) 0).bind fun bt313 => (if 0 < (t303.length : Int) then ((laws_twoOf.f 7 (Int.tmod (rd t303 0) 100) 0).bind fun t316 => ((impl_EvalExpr.f k t316 (([] : List (S87))) 0).bind fun bt322 => ((impl_EvalExpr.f k (([(⟨2,0,(⟨#[97]⟩ : ByteArray),([] : List Int)⟩ : S34)] : List (S34))) (([] : List (S87))) 0).bind fun bt330 => (if 1 < (t303.length : Int) then ((impl_EvalExpr.f k (([(⟨3,0,(⟨#[]⟩ : ByteArray),([] : List Int)⟩ : S34)] : List (S34))) (([] : List (S87))) (Int.tmod (rd t303 1) 12)).bind fun bt339 => ((some (([] : List (S34)) : List (S34))).bind fun y342 => (if y342.length + t306.length < 2513169434916 then ((some (y342 ++ t306 : List (S34))).bind fun y345 => ((some (([(⟨1,99,(⟨#[]⟩ : ByteArray),([] : List Int)⟩ : S34),(⟨6,0,(⟨#[]⟩ : ByteArray),(([2,3] : List Int))⟩ : S34)] : List (S34)) : List (S34))).bind fun y351 => (if y345.length + y351.length < 2513169434916 then ((impl_EvalExpr.f k (y345 ++ y351) (([] : List (S87))) 0).bind fun bt360 => ((spec_DrawExprOk.f k l0).bind fun t362 => (if bt313.2 = true then (if bt313.1 = 9801 then (if bt322.2 = true then (none) else (if bt322.1 = 0 then (if bt330.2 = true then (none) else (if bt330.1 = 0 then (if bt339.2 = true then (if bt339.1 = (Int.tmod (rd t303 1) 12) then (if bt360.2 = true then (none) else (if bt360.1 = 0 then ((impl_ExprOk.f k t362).bind fun t367 => ((spec_ExprOk.f k t362).bind fun t368 => (some (t367 == t368)))) else (none))) else (none)) else (none)) else (none))) else (none))) else (none)) else (none)))) else (none)))) else (none)))) else (none))))) else (none))) = some r:=H
  have A5:=zm_ A50
  clear A50
  obtain ⟨y310,hy310⟩ : ∃ y_ : List (S87),y_ = (([] : List (S87))):=⟨_,rfl⟩
  replace H : ((impl_EvalExpr.f k t306 y310 0).bind fun bt313 => (if 0 < (t303.length : Int) then ((laws_twoOf.f 7 (Int.tmod (rd t303 0) 100) 0).bind fun t316 => ((impl_EvalExpr.f k t316 (([] : List (S87))) 0).bind fun bt322 => ((impl_EvalExpr.f k (([(⟨2,0,(⟨#[97]⟩ : ByteArray),([] : List Int)⟩ : S34)] : List (S34))) (([] : List (S87))) 0).bind fun bt330 => (if 1 < (t303.length : Int) then ((impl_EvalExpr.f k (([(⟨3,0,(⟨#[]⟩ : ByteArray),([] : List Int)⟩ : S34)] : List (S34))) (([] : List (S87))) (Int.tmod (rd t303 1) 12)).bind fun bt339 => ((some (([] : List (S34)) : List (S34))).bind fun y342 => (if y342.length + t306.length < 2513169434916 then ((some (y342 ++ t306 : List (S34))).bind fun y345 => ((some (([(⟨1,99,(⟨#[]⟩ : ByteArray),([] : List Int)⟩ : S34),(⟨6,0,(⟨#[]⟩ : ByteArray),(([2,3] : List Int))⟩ : S34)] : List (S34)) : List (S34))).bind fun y351 => (if y345.length + y351.length < 2513169434916 then ((impl_EvalExpr.f k (y345 ++ y351) (([] : List (S87))) 0).bind fun bt360 => ((spec_DrawExprOk.f k l0).bind fun t362 => (if bt313.2 = true then (if bt313.1 = 9801 then (if bt322.2 = true then (none) else (if bt322.1 = 0 then (if bt330.2 = true then (none) else (if bt330.1 = 0 then (if bt339.2 = true then (if bt339.1 = (Int.tmod (rd t303 1) 12) then (if bt360.2 = true then (none) else (if bt360.1 = 0 then ((impl_ExprOk.f k t362).bind fun t367 => ((spec_ExprOk.f k t362).bind fun t368 => (some (t367 == t368)))) else (none))) else (none)) else (none)) else (none))) else (none))) else (none)) else (none)))) else (none)))) else (none)))) else (none))))) else (none))) = some r:=by first|(rw [hy310];with_reducible exact H)|(have H2_:=(Option.bind_some _ _).symm.trans H;rw [hy310];with_reducible exact H2_)|(have H2_:=(Option.bind_some _ _).symm.trans H;with_reducible exact H2_)|with_reducible exact H|(rw [hy310];exact H)|exact H
  have Ny310:=zm_ hy310
  clear hy310
  replace H:=Option.bind_eq_some_iff.mp H
  obtain ⟨⟨t313,t314⟩,A60,H⟩:=H
  replace H : (if 0 < (t303.length : Int) then ((laws_twoOf.f 7 (Int.tmod (rd t303 0) 100) 0).bind fun t316 => ((impl_EvalExpr.f k t316 (([] : List (S87))) 0).bind fun bt322 => ((impl_EvalExpr.f k (([(⟨2,0,(⟨#[97]⟩ : ByteArray),([] : List Int)⟩ : S34)] : List (S34))) (([] : List (S87))) 0).bind fun bt330 => (if 1 < (t303.length : Int) then ((impl_EvalExpr.f k (([(⟨3,0,(⟨#[]⟩ : ByteArray),([] : List Int)⟩ : S34)] : List (S34))) (([] : List (S87))) (Int.tmod (rd t303 1) 12)).bind fun bt339 => ((some (([] : List (S34)) : List (S34))).bind fun y342 => (if y342.length + t306.length < 2513169434916 then ((some (y342 ++ t306 : List (S34))).bind fun y345 => ((some (([(⟨1,99,(⟨#[]⟩ : ByteArray),([] : List Int)⟩ : S34),(⟨6,0,(⟨#[]⟩ : ByteArray),(([2,3] : List Int))⟩ : S34)] : List (S34)) : List (S34))).bind fun y351 => (if y345.length + y351.length < 2513169434916 then ((impl_EvalExpr.f k (y345 ++ y351) (([] : List (S87))) 0).bind fun bt360 => ((spec_DrawExprOk.f k l0).bind fun t362 => (if t314 = true then (if t313 = 9801 then (if bt322.2 = true then (none) else (if bt322.1 = 0 then (if bt330.2 = true then (none) else (if bt330.1 = 0 then (if bt339.2 = true then (if bt339.1 = (Int.tmod (rd t303 1) 12) then (if bt360.2 = true then (none) else (if bt360.1 = 0 then ((impl_ExprOk.f k t362).bind fun t367 => ((spec_ExprOk.f k t362).bind fun t368 => (some (t367 == t368)))) else (none))) else (none)) else (none)) else (none))) else (none))) else (none)) else (none)))) else (none)))) else (none)))) else (none))))) else (none)) = some r:=H
  have A6:=zm_ A60
  clear A60
  by_cases c7 : 0 < (t303.length : Int)
  ·rw [if_pos c7] at H
   have c7b0 : decide (0 < (t303.length : Int)) = true:=decide_eq_true c7
   have c7b1 : decide (0 < t303.length) = true:=decide_eq_true (by omega)
   clear c7
   replace H:=Option.bind_eq_some_iff.mp H
   obtain ⟨t316,A80,H⟩:=H
   replace H : ((impl_EvalExpr.f k t316 (([] : List (S87))) 0).bind fun bt322 => ((impl_EvalExpr.f k (([(⟨2,0,(⟨#[97]⟩ : ByteArray),([] : List Int)⟩ : S34)] : List (S34))) (([] : List (S87))) 0).bind fun bt330 => (if 1 < (t303.length : Int) then ((impl_EvalExpr.f k (([(⟨3,0,(⟨#[]⟩ : ByteArray),([] : List Int)⟩ : S34)] : List (S34))) (([] : List (S87))) (Int.tmod (rd t303 1) 12)).bind fun bt339 => ((some (([] : List (S34)) : List (S34))).bind fun y342 => (if y342.length + t306.length < 2513169434916 then ((some (y342 ++ t306 : List (S34))).bind fun y345 => ((some (([(⟨1,99,(⟨#[]⟩ : ByteArray),([] : List Int)⟩ : S34),(⟨6,0,(⟨#[]⟩ : ByteArray),(([2,3] : List Int))⟩ : S34)] : List (S34)) : List (S34))).bind fun y351 => (if y345.length + y351.length < 2513169434916 then ((impl_EvalExpr.f k (y345 ++ y351) (([] : List (S87))) 0).bind fun bt360 => ((spec_DrawExprOk.f k l0).bind fun t362 => (if t314 = true then (if t313 = 9801 then (if bt322.2 = true then (none) else (if bt322.1 = 0 then (if bt330.2 = true then (none) else (if bt330.1 = 0 then (if bt339.2 = true then (if bt339.1 = (Int.tmod (rd t303 1) 12) then (if bt360.2 = true then (none) else (if bt360.1 = 0 then ((impl_ExprOk.f k t362).bind fun t367 => ((spec_ExprOk.f k t362).bind fun t368 => (some (t367 == t368)))) else (none))) else (none)) else (none)) else (none))) else (none))) else (none)) else (none)))) else (none)))) else (none)))) else (none)))) = some r:=H
   have A8:=zm_ A80
   clear A80
   obtain ⟨y319,hy319⟩ : ∃ y_ : List (S87),y_ = (([] : List (S87))):=⟨_,rfl⟩
   replace H : ((impl_EvalExpr.f k t316 y319 0).bind fun bt322 => ((impl_EvalExpr.f k (([(⟨2,0,(⟨#[97]⟩ : ByteArray),([] : List Int)⟩ : S34)] : List (S34))) (([] : List (S87))) 0).bind fun bt330 => (if 1 < (t303.length : Int) then ((impl_EvalExpr.f k (([(⟨3,0,(⟨#[]⟩ : ByteArray),([] : List Int)⟩ : S34)] : List (S34))) (([] : List (S87))) (Int.tmod (rd t303 1) 12)).bind fun bt339 => ((some (([] : List (S34)) : List (S34))).bind fun y342 => (if y342.length + t306.length < 2513169434916 then ((some (y342 ++ t306 : List (S34))).bind fun y345 => ((some (([(⟨1,99,(⟨#[]⟩ : ByteArray),([] : List Int)⟩ : S34),(⟨6,0,(⟨#[]⟩ : ByteArray),(([2,3] : List Int))⟩ : S34)] : List (S34)) : List (S34))).bind fun y351 => (if y345.length + y351.length < 2513169434916 then ((impl_EvalExpr.f k (y345 ++ y351) (([] : List (S87))) 0).bind fun bt360 => ((spec_DrawExprOk.f k l0).bind fun t362 => (if t314 = true then (if t313 = 9801 then (if bt322.2 = true then (none) else (if bt322.1 = 0 then (if bt330.2 = true then (none) else (if bt330.1 = 0 then (if bt339.2 = true then (if bt339.1 = (Int.tmod (rd t303 1) 12) then (if bt360.2 = true then (none) else (if bt360.1 = 0 then ((impl_ExprOk.f k t362).bind fun t367 => ((spec_ExprOk.f k t362).bind fun t368 => (some (t367 == t368)))) else (none))) else (none)) else (none)) else (none))) else (none))) else (none)) else (none)))) else (none)))) else (none)))) else (none)))) = some r:=by first|(rw [hy319];with_reducible exact H)|(have H2_:=(Option.bind_some _ _).symm.trans H;rw [hy319];with_reducible exact H2_)|(have H2_:=(Option.bind_some _ _).symm.trans H;with_reducible exact H2_)|with_reducible exact H|(rw [hy319];exact H)|exact H
   have Ny319:=zm_ hy319
   clear hy319
   replace H:=Option.bind_eq_some_iff.mp H
   obtain ⟨⟨t322,t323⟩,A90,H⟩:=H
   replace H : ((impl_EvalExpr.f k (([(⟨2,0,(⟨#[97]⟩ : ByteArray),([] : List Int)⟩ : S34)] : List (S34))) (([] : List (S87))) 0).bind fun bt330 => (if 1 < (t303.length : Int) then ((impl_EvalExpr.f k (([(⟨3,0,(⟨#[]⟩ : ByteArray),([] : List Int)⟩ : S34)] : List (S34))) (([] : List (S87))) (Int.tmod (rd t303 1) 12)).bind fun bt339 => ((some (([] : List (S34)) : List (S34))).bind fun y342 => (if y342.length + t306.length < 2513169434916 then ((some (y342 ++ t306 : List (S34))).bind fun y345 => ((some (([(⟨1,99,(⟨#[]⟩ : ByteArray),([] : List Int)⟩ : S34),(⟨6,0,(⟨#[]⟩ : ByteArray),(([2,3] : List Int))⟩ : S34)] : List (S34)) : List (S34))).bind fun y351 => (if y345.length + y351.length < 2513169434916 then ((impl_EvalExpr.f k (y345 ++ y351) (([] : List (S87))) 0).bind fun bt360 => ((spec_DrawExprOk.f k l0).bind fun t362 => (if t314 = true then (if t313 = 9801 then (if t323 = true then (none) else (if t322 = 0 then (if bt330.2 = true then (none) else (if bt330.1 = 0 then (if bt339.2 = true then (if bt339.1 = (Int.tmod (rd t303 1) 12) then (if bt360.2 = true then (none) else (if bt360.1 = 0 then ((impl_ExprOk.f k t362).bind fun t367 => ((spec_ExprOk.f k t362).bind fun t368 => (some (t367 == t368)))) else (none))) else (none)) else (none)) else (none))) else (none))) else (none)) else (none)))) else (none)))) else (none)))) else (none))) = some r:=H
   have A9:=zm_ A90
   clear A90
   obtain ⟨y324,hy324⟩ : ∃ y_ : List (S34),y_ = (([(⟨2,0,(⟨#[97]⟩ : ByteArray),([] : List Int)⟩ : S34)] : List (S34))):=⟨_,rfl⟩
   replace H : ((impl_EvalExpr.f k y324 (([] : List (S87))) 0).bind fun bt330 => (if 1 < (t303.length : Int) then ((impl_EvalExpr.f k (([(⟨3,0,(⟨#[]⟩ : ByteArray),([] : List Int)⟩ : S34)] : List (S34))) (([] : List (S87))) (Int.tmod (rd t303 1) 12)).bind fun bt339 => ((some (([] : List (S34)) : List (S34))).bind fun y342 => (if y342.length + t306.length < 2513169434916 then ((some (y342 ++ t306 : List (S34))).bind fun y345 => ((some (([(⟨1,99,(⟨#[]⟩ : ByteArray),([] : List Int)⟩ : S34),(⟨6,0,(⟨#[]⟩ : ByteArray),(([2,3] : List Int))⟩ : S34)] : List (S34)) : List (S34))).bind fun y351 => (if y345.length + y351.length < 2513169434916 then ((impl_EvalExpr.f k (y345 ++ y351) (([] : List (S87))) 0).bind fun bt360 => ((spec_DrawExprOk.f k l0).bind fun t362 => (if t314 = true then (if t313 = 9801 then (if t323 = true then (none) else (if t322 = 0 then (if bt330.2 = true then (none) else (if bt330.1 = 0 then (if bt339.2 = true then (if bt339.1 = (Int.tmod (rd t303 1) 12) then (if bt360.2 = true then (none) else (if bt360.1 = 0 then ((impl_ExprOk.f k t362).bind fun t367 => ((spec_ExprOk.f k t362).bind fun t368 => (some (t367 == t368)))) else (none))) else (none)) else (none)) else (none))) else (none))) else (none)) else (none)))) else (none)))) else (none)))) else (none))) = some r:=by first|(rw [hy324];with_reducible exact H)|(have H2_:=(Option.bind_some _ _).symm.trans H;rw [hy324];with_reducible exact H2_)|(have H2_:=(Option.bind_some _ _).symm.trans H;with_reducible exact H2_)|with_reducible exact H|(rw [hy324];exact H)|exact H
   have Ny324:=zm_ hy324
   clear hy324
   obtain ⟨y327,hy327⟩ : ∃ y_ : List (S87),y_ = (([] : List (S87))):=⟨_,rfl⟩
   replace H : ((impl_EvalExpr.f k y324 y327 0).bind fun bt330 => (if 1 < (t303.length : Int) then ((impl_EvalExpr.f k (([(⟨3,0,(⟨#[]⟩ : ByteArray),([] : List Int)⟩ : S34)] : List (S34))) (([] : List (S87))) (Int.tmod (rd t303 1) 12)).bind fun bt339 => ((some (([] : List (S34)) : List (S34))).bind fun y342 => (if y342.length + t306.length < 2513169434916 then ((some (y342 ++ t306 : List (S34))).bind fun y345 => ((some (([(⟨1,99,(⟨#[]⟩ : ByteArray),([] : List Int)⟩ : S34),(⟨6,0,(⟨#[]⟩ : ByteArray),(([2,3] : List Int))⟩ : S34)] : List (S34)) : List (S34))).bind fun y351 => (if y345.length + y351.length < 2513169434916 then ((impl_EvalExpr.f k (y345 ++ y351) (([] : List (S87))) 0).bind fun bt360 => ((spec_DrawExprOk.f k l0).bind fun t362 => (if t314 = true then (if t313 = 9801 then (if t323 = true then (none) else (if t322 = 0 then (if bt330.2 = true then (none) else (if bt330.1 = 0 then (if bt339.2 = true then (if bt339.1 = (Int.tmod (rd t303 1) 12) then (if bt360.2 = true then (none) else (if bt360.1 = 0 then ((impl_ExprOk.f k t362).bind fun t367 => ((spec_ExprOk.f k t362).bind fun t368 => (some (t367 == t368)))) else (none))) else (none)) else (none)) else (none))) else (none))) else (none)) else (none)))) else (none)))) else (none)))) else (none))) = some r:=by first|(rw [hy327];with_reducible exact H)|(have H2_:=(Option.bind_some _ _).symm.trans H;rw [hy327];with_reducible exact H2_)|(have H2_:=(Option.bind_some _ _).symm.trans H;with_reducible exact H2_)|with_reducible exact H|(rw [hy327];exact H)|exact H
   have Ny327:=zm_ hy327
   clear hy327
   replace H:=Option.bind_eq_some_iff.mp H
   obtain ⟨⟨t330,t331⟩,A100,H⟩:=H
   replace H : (if 1 < (t303.length : Int) then ((impl_EvalExpr.f k (([(⟨3,0,(⟨#[]⟩ : ByteArray),([] : List Int)⟩ : S34)] : List (S34))) (([] : List (S87))) (Int.tmod (rd t303 1) 12)).bind fun bt339 => ((some (([] : List (S34)) : List (S34))).bind fun y342 => (if y342.length + t306.length < 2513169434916 then ((some (y342 ++ t306 : List (S34))).bind fun y345 => ((some (([(⟨1,99,(⟨#[]⟩ : ByteArray),([] : List Int)⟩ : S34),(⟨6,0,(⟨#[]⟩ : ByteArray),(([2,3] : List Int))⟩ : S34)] : List (S34)) : List (S34))).bind fun y351 => (if y345.length + y351.length < 2513169434916 then ((impl_EvalExpr.f k (y345 ++ y351) (([] : List (S87))) 0).bind fun bt360 => ((spec_DrawExprOk.f k l0).bind fun t362 => (if t314 = true then (if t313 = 9801 then (if t323 = true then (none) else (if t322 = 0 then (if t331 = true then (none) else (if t330 = 0 then (if bt339.2 = true then (if bt339.1 = (Int.tmod (rd t303 1) 12) then (if bt360.2 = true then (none) else (if bt360.1 = 0 then ((impl_ExprOk.f k t362).bind fun t367 => ((spec_ExprOk.f k t362).bind fun t368 => (some (t367 == t368)))) else (none))) else (none)) else (none)) else (none))) else (none))) else (none)) else (none)))) else (none)))) else (none)))) else (none)) = some r:=H
   have A10:=zm_ A100
   clear A100
   obtain ⟨y332,hy332⟩ : ∃ y_ : List (S34),y_ = (([(⟨3,0,(⟨#[]⟩ : ByteArray),([] : List Int)⟩ : S34)] : List (S34))):=⟨_,rfl⟩
   replace H : (if 1 < (t303.length : Int) then ((impl_EvalExpr.f k y332 (([] : List (S87))) (Int.tmod (rd t303 1) 12)).bind fun bt339 => ((some (([] : List (S34)) : List (S34))).bind fun y342 => (if y342.length + t306.length < 2513169434916 then ((some (y342 ++ t306 : List (S34))).bind fun y345 => ((some (([(⟨1,99,(⟨#[]⟩ : ByteArray),([] : List Int)⟩ : S34),(⟨6,0,(⟨#[]⟩ : ByteArray),(([2,3] : List Int))⟩ : S34)] : List (S34)) : List (S34))).bind fun y351 => (if y345.length + y351.length < 2513169434916 then ((impl_EvalExpr.f k (y345 ++ y351) (([] : List (S87))) 0).bind fun bt360 => ((spec_DrawExprOk.f k l0).bind fun t362 => (if t314 = true then (if t313 = 9801 then (if t323 = true then (none) else (if t322 = 0 then (if t331 = true then (none) else (if t330 = 0 then (if bt339.2 = true then (if bt339.1 = (Int.tmod (rd t303 1) 12) then (if bt360.2 = true then (none) else (if bt360.1 = 0 then ((impl_ExprOk.f k t362).bind fun t367 => ((spec_ExprOk.f k t362).bind fun t368 => (some (t367 == t368)))) else (none))) else (none)) else (none)) else (none))) else (none))) else (none)) else (none)))) else (none)))) else (none)))) else (none)) = some r:=by first|(rw [hy332];with_reducible exact H)|(have H2_:=(Option.bind_some _ _).symm.trans H;rw [hy332];with_reducible exact H2_)|(have H2_:=(Option.bind_some _ _).symm.trans H;with_reducible exact H2_)|with_reducible exact H|(rw [hy332];exact H)|exact H
   have Ny332:=zm_ hy332
   clear hy332
   obtain ⟨y335,hy335⟩ : ∃ y_ : List (S87),y_ = (([] : List (S87))):=⟨_,rfl⟩
   replace H : (if 1 < (t303.length : Int) then ((impl_EvalExpr.f k y332 y335 (Int.tmod (rd t303 1) 12)).bind fun bt339 => ((some (([] : List (S34)) : List (S34))).bind fun y342 => (if y342.length + t306.length < 2513169434916 then ((some (y342 ++ t306 : List (S34))).bind fun y345 => ((some (([(⟨1,99,(⟨#[]⟩ : ByteArray),([] : List Int)⟩ : S34),(⟨6,0,(⟨#[]⟩ : ByteArray),(([2,3] : List Int))⟩ : S34)] : List (S34)) : List (S34))).bind fun y351 => (if y345.length + y351.length < 2513169434916 then ((impl_EvalExpr.f k (y345 ++ y351) (([] : List (S87))) 0).bind fun bt360 => ((spec_DrawExprOk.f k l0).bind fun t362 => (if t314 = true then (if t313 = 9801 then (if t323 = true then (none) else (if t322 = 0 then (if t331 = true then (none) else (if t330 = 0 then (if bt339.2 = true then (if bt339.1 = (Int.tmod (rd t303 1) 12) then (if bt360.2 = true then (none) else (if bt360.1 = 0 then ((impl_ExprOk.f k t362).bind fun t367 => ((spec_ExprOk.f k t362).bind fun t368 => (some (t367 == t368)))) else (none))) else (none)) else (none)) else (none))) else (none))) else (none)) else (none)))) else (none)))) else (none)))) else (none)) = some r:=by first|(rw [hy335];with_reducible exact H)|(have H2_:=(Option.bind_some _ _).symm.trans H;rw [hy335];with_reducible exact H2_)|(have H2_:=(Option.bind_some _ _).symm.trans H;with_reducible exact H2_)|with_reducible exact H|(rw [hy335];exact H)|exact H
   have Ny335:=zm_ hy335
   clear hy335
   by_cases c11 : 1 < (t303.length : Int)
   ·rw [if_pos c11] at H
    have c11b0 : decide (1 < (t303.length : Int)) = true:=decide_eq_true c11
    have c11b1 : decide (1 < t303.length) = true:=decide_eq_true (by omega)
    clear c11
    replace H:=Option.bind_eq_some_iff.mp H
    obtain ⟨⟨t339,t340⟩,A120,H⟩:=H
    replace H : ((some (([] : List (S34)) : List (S34))).bind fun y342 => (if y342.length + t306.length < 2513169434916 then ((some (y342 ++ t306 : List (S34))).bind fun y345 => ((some (([(⟨1,99,(⟨#[]⟩ : ByteArray),([] : List Int)⟩ : S34),(⟨6,0,(⟨#[]⟩ : ByteArray),(([2,3] : List Int))⟩ : S34)] : List (S34)) : List (S34))).bind fun y351 => (if y345.length + y351.length < 2513169434916 then ((impl_EvalExpr.f k (y345 ++ y351) (([] : List (S87))) 0).bind fun bt360 => ((spec_DrawExprOk.f k l0).bind fun t362 => (if t314 = true then (if t313 = 9801 then (if t323 = true then (none) else (if t322 = 0 then (if t331 = true then (none) else (if t330 = 0 then (if t340 = true then (if t339 = (Int.tmod (rd t303 1) 12) then (if bt360.2 = true then (none) else (if bt360.1 = 0 then ((impl_ExprOk.f k t362).bind fun t367 => ((spec_ExprOk.f k t362).bind fun t368 => (some (t367 == t368)))) else (none))) else (none)) else (none)) else (none))) else (none))) else (none)) else (none)))) else (none)))) else (none))) = some r:=H
    have A12:=zm_ A120
    clear A120
    obtain ⟨y342,hy342⟩ : ∃ y_ : List (S34),y_ = (([] : List (S34))):=⟨_,rfl⟩
    replace H : (if y342.length + t306.length < 2513169434916 then ((some (y342 ++ t306 : List (S34))).bind fun y345 => ((some (([(⟨1,99,(⟨#[]⟩ : ByteArray),([] : List Int)⟩ : S34),(⟨6,0,(⟨#[]⟩ : ByteArray),(([2,3] : List Int))⟩ : S34)] : List (S34)) : List (S34))).bind fun y351 => (if y345.length + y351.length < 2513169434916 then ((impl_EvalExpr.f k (y345 ++ y351) (([] : List (S87))) 0).bind fun bt360 => ((spec_DrawExprOk.f k l0).bind fun t362 => (if t314 = true then (if t313 = 9801 then (if t323 = true then (none) else (if t322 = 0 then (if t331 = true then (none) else (if t330 = 0 then (if t340 = true then (if t339 = (Int.tmod (rd t303 1) 12) then (if bt360.2 = true then (none) else (if bt360.1 = 0 then ((impl_ExprOk.f k t362).bind fun t367 => ((spec_ExprOk.f k t362).bind fun t368 => (some (t367 == t368)))) else (none))) else (none)) else (none)) else (none))) else (none))) else (none)) else (none)))) else (none)))) else (none)) = some r:=by first|(rw [hy342];with_reducible exact H)|(have H2_:=(Option.bind_some _ _).symm.trans H;rw [hy342];with_reducible exact H2_)|(have H2_:=(Option.bind_some _ _).symm.trans H;with_reducible exact H2_)|with_reducible exact H|(rw [hy342];exact H)|exact H
    have Ny342:=zm_ hy342
    clear hy342
    by_cases c13 : y342.length + t306.length < 2513169434916
    ·rw [if_pos c13] at H
     have LMc13:=zm_ c13
     clear c13
     obtain ⟨y345,hy345⟩ : ∃ y_ : List (S34),y_ = (y342 ++ t306):=⟨_,rfl⟩
     replace H : ((some (([(⟨1,99,(⟨#[]⟩ : ByteArray),([] : List Int)⟩ : S34),(⟨6,0,(⟨#[]⟩ : ByteArray),(([2,3] : List Int))⟩ : S34)] : List (S34)) : List (S34))).bind fun y351 => (if y345.length + y351.length < 2513169434916 then ((impl_EvalExpr.f k (y345 ++ y351) (([] : List (S87))) 0).bind fun bt360 => ((spec_DrawExprOk.f k l0).bind fun t362 => (if t314 = true then (if t313 = 9801 then (if t323 = true then (none) else (if t322 = 0 then (if t331 = true then (none) else (if t330 = 0 then (if t340 = true then (if t339 = (Int.tmod (rd t303 1) 12) then (if bt360.2 = true then (none) else (if bt360.1 = 0 then ((impl_ExprOk.f k t362).bind fun t367 => ((spec_ExprOk.f k t362).bind fun t368 => (some (t367 == t368)))) else (none))) else (none)) else (none)) else (none))) else (none))) else (none)) else (none)))) else (none))) = some r:=by first|(rw [hy345];with_reducible exact H)|(have H2_:=(Option.bind_some _ _).symm.trans H;rw [hy345];with_reducible exact H2_)|(have H2_:=(Option.bind_some _ _).symm.trans H;with_reducible exact H2_)|with_reducible exact H|(rw [hy345];exact H)|exact H
     have Ny345:=zm_ hy345
     clear hy345
     obtain ⟨y348,hy348⟩ : ∃ y_ : List Int,y_ = (([2,3] : List Int)):=⟨_,rfl⟩
     replace H : ((some (([(⟨1,99,(⟨#[]⟩ : ByteArray),([] : List Int)⟩ : S34),(⟨6,0,(⟨#[]⟩ : ByteArray),y348⟩ : S34)] : List (S34)) : List (S34))).bind fun y351 => (if y345.length + y351.length < 2513169434916 then ((impl_EvalExpr.f k (y345 ++ y351) (([] : List (S87))) 0).bind fun bt360 => ((spec_DrawExprOk.f k l0).bind fun t362 => (if t314 = true then (if t313 = 9801 then (if t323 = true then (none) else (if t322 = 0 then (if t331 = true then (none) else (if t330 = 0 then (if t340 = true then (if t339 = (Int.tmod (rd t303 1) 12) then (if bt360.2 = true then (none) else (if bt360.1 = 0 then ((impl_ExprOk.f k t362).bind fun t367 => ((spec_ExprOk.f k t362).bind fun t368 => (some (t367 == t368)))) else (none))) else (none)) else (none)) else (none))) else (none))) else (none)) else (none)))) else (none))) = some r:=by first|(rw [hy348];with_reducible exact H)|(have H2_:=(Option.bind_some _ _).symm.trans H;rw [hy348];with_reducible exact H2_)|(have H2_:=(Option.bind_some _ _).symm.trans H;with_reducible exact H2_)|with_reducible exact H|(rw [hy348];exact H)|exact H
     have Ny348:=zm_ hy348
     clear hy348
     obtain ⟨y351,hy351⟩ : ∃ y_ : List (S34),y_ = (([(⟨1,99,(⟨#[]⟩ : ByteArray),([] : List Int)⟩ : S34),(⟨6,0,(⟨#[]⟩ : ByteArray),y348⟩ : S34)] : List (S34))):=⟨_,rfl⟩
     replace H : (if y345.length + y351.length < 2513169434916 then ((impl_EvalExpr.f k (y345 ++ y351) (([] : List (S87))) 0).bind fun bt360 => ((spec_DrawExprOk.f k l0).bind fun t362 => (if t314 = true then (if t313 = 9801 then (if t323 = true then (none) else (if t322 = 0 then (if t331 = true then (none) else (if t330 = 0 then (if t340 = true then (if t339 = (Int.tmod (rd t303 1) 12) then (if bt360.2 = true then (none) else (if bt360.1 = 0 then ((impl_ExprOk.f k t362).bind fun t367 => ((spec_ExprOk.f k t362).bind fun t368 => (some (t367 == t368)))) else (none))) else (none)) else (none)) else (none))) else (none))) else (none)) else (none)))) else (none)) = some r:=by first|(rw [hy351];with_reducible exact H)|(have H2_:=(Option.bind_some _ _).symm.trans H;rw [hy351];with_reducible exact H2_)|(have H2_:=(Option.bind_some _ _).symm.trans H;with_reducible exact H2_)|with_reducible exact H|(rw [hy351];exact H)|exact H
     have Ny351:=zm_ hy351
     clear hy351
     by_cases c14 : y345.length + y351.length < 2513169434916
     ·rw [if_pos c14] at H
      have LMc14:=zm_ c14
      clear c14
      obtain ⟨y354,hy354⟩ : ∃ y_ : List (S34),y_ = (y345 ++ y351):=⟨_,rfl⟩
      replace H : ((impl_EvalExpr.f k y354 (([] : List (S87))) 0).bind fun bt360 => ((spec_DrawExprOk.f k l0).bind fun t362 => (if t314 = true then (if t313 = 9801 then (if t323 = true then (none) else (if t322 = 0 then (if t331 = true then (none) else (if t330 = 0 then (if t340 = true then (if t339 = (Int.tmod (rd t303 1) 12) then (if bt360.2 = true then (none) else (if bt360.1 = 0 then ((impl_ExprOk.f k t362).bind fun t367 => ((spec_ExprOk.f k t362).bind fun t368 => (some (t367 == t368)))) else (none))) else (none)) else (none)) else (none))) else (none))) else (none)) else (none)))) = some r:=by first|(rw [hy354];with_reducible exact H)|(have H2_:=(Option.bind_some _ _).symm.trans H;rw [hy354];with_reducible exact H2_)|(have H2_:=(Option.bind_some _ _).symm.trans H;with_reducible exact H2_)|with_reducible exact H|(rw [hy354];exact H)|exact H
      have Ny354:=zm_ hy354
      clear hy354
      obtain ⟨y357,hy357⟩ : ∃ y_ : List (S87),y_ = (([] : List (S87))):=⟨_,rfl⟩
      replace H : ((impl_EvalExpr.f k y354 y357 0).bind fun bt360 => ((spec_DrawExprOk.f k l0).bind fun t362 => (if t314 = true then (if t313 = 9801 then (if t323 = true then (none) else (if t322 = 0 then (if t331 = true then (none) else (if t330 = 0 then (if t340 = true then (if t339 = (Int.tmod (rd t303 1) 12) then (if bt360.2 = true then (none) else (if bt360.1 = 0 then ((impl_ExprOk.f k t362).bind fun t367 => ((spec_ExprOk.f k t362).bind fun t368 => (some (t367 == t368)))) else (none))) else (none)) else (none)) else (none))) else (none))) else (none)) else (none)))) = some r:=by first|(rw [hy357];with_reducible exact H)|(have H2_:=(Option.bind_some _ _).symm.trans H;rw [hy357];with_reducible exact H2_)|(have H2_:=(Option.bind_some _ _).symm.trans H;with_reducible exact H2_)|with_reducible exact H|(rw [hy357];exact H)|exact H
      have Ny357:=zm_ hy357
      clear hy357
      replace H:=Option.bind_eq_some_iff.mp H
      obtain ⟨⟨t360,t361⟩,A150,H⟩:=H
      replace H : ((spec_DrawExprOk.f k l0).bind fun t362 => (if t314 = true then (if t313 = 9801 then (if t323 = true then (none) else (if t322 = 0 then (if t331 = true then (none) else (if t330 = 0 then (if t340 = true then (if t339 = (Int.tmod (rd t303 1) 12) then (if t361 = true then (none) else (if t360 = 0 then ((impl_ExprOk.f k t362).bind fun t367 => ((spec_ExprOk.f k t362).bind fun t368 => (some (t367 == t368)))) else (none))) else (none)) else (none)) else (none))) else (none))) else (none)) else (none))) = some r:=H
      have A15:=zm_ A150
      clear A150
      replace H:=Option.bind_eq_some_iff.mp H
      obtain ⟨t362,A160,H⟩:=H
      replace H : (if t314 = true then (if t313 = 9801 then (if t323 = true then (none) else (if t322 = 0 then (if t331 = true then (none) else (if t330 = 0 then (if t340 = true then (if t339 = (Int.tmod (rd t303 1) 12) then (if t361 = true then (none) else (if t360 = 0 then ((impl_ExprOk.f k t362).bind fun t367 => ((spec_ExprOk.f k t362).bind fun t368 => (some (t367 == t368)))) else (none))) else (none)) else (none)) else (none))) else (none))) else (none)) else (none)) = some r:=H
      have A16:=zm_ A160
      clear A160
      by_cases c17 : t314 = true
      ·subst c17
       have H1 : (if t313 = 9801 then (if t323 = true then (none) else (if t322 = 0 then (if t331 = true then (none) else (if t330 = 0 then (if t340 = true then (if t339 = (Int.tmod (rd t303 1) 12) then (if t361 = true then (none) else (if t360 = 0 then ((impl_ExprOk.f k t362).bind fun t367 => ((spec_ExprOk.f k t362).bind fun t368 => (some (t367 == t368)))) else (none))) else (none)) else (none)) else (none))) else (none))) else (none)) = some r:=by rw [if_pos rfl] at H;exact H
       clear H
       have H:=H1
       clear H1
       by_cases c18 : t313 = 9801
       ·rw [if_pos c18] at H
        have c18b0 : (t313 == 9801) = true:=beq_iff_eq.mpr c18
        have c18b1 : (t313 != 9801) = false:=bne_eq_false_iff_eq.mpr c18
        clear c18
        by_cases c19 : t323 = true
        ·subst c19
         have H1 : (none) = some r:=by rw [if_pos rfl] at H;exact H
         clear H
         have H:=H1
         clear H1
         exact absurd H (by simp)
        ·replace c19:=Bool.eq_false_iff.mpr c19
         subst c19
         have H1 : (if t322 = 0 then (if t331 = true then (none) else (if t330 = 0 then (if t340 = true then (if t339 = (Int.tmod (rd t303 1) 12) then (if t361 = true then (none) else (if t360 = 0 then ((impl_ExprOk.f k t362).bind fun t367 => ((spec_ExprOk.f k t362).bind fun t368 => (some (t367 == t368)))) else (none))) else (none)) else (none)) else (none))) else (none)) = some r:=by rw [if_neg (show ¬ (false = true) by decide)] at H;exact H
         clear H
         have H:=H1
         clear H1
         by_cases c20 : t322 = 0
         ·rw [if_pos c20] at H
          have c20b0 : (t322 == 0) = true:=beq_iff_eq.mpr c20
          have c20b1 : (t322 != 0) = false:=bne_eq_false_iff_eq.mpr c20
          clear c20
          by_cases c21 : t331 = true
          ·subst c21
           have H1 : (none) = some r:=by rw [if_pos rfl] at H;exact H
           clear H
           have H:=H1
           clear H1
           exact absurd H (by simp)
          ·replace c21:=Bool.eq_false_iff.mpr c21
           subst c21
           have H1 : (if t330 = 0 then (if t340 = true then (if t339 = (Int.tmod (rd t303 1) 12) then (if t361 = true then (none) else (if t360 = 0 then ((impl_ExprOk.f k t362).bind fun t367 => ((spec_ExprOk.f k t362).bind fun t368 => (some (t367 == t368)))) else (none))) else (none)) else (none)) else (none)) = some r:=by rw [if_neg (show ¬ (false = true) by decide)] at H;exact H
           clear H
           have H:=H1
           clear H1
           by_cases c22 : t330 = 0
           ·rw [if_pos c22] at H
            have c22b0 : (t330 == 0) = true:=beq_iff_eq.mpr c22
            have c22b1 : (t330 != 0) = false:=bne_eq_false_iff_eq.mpr c22
            clear c22
            by_cases c23 : t340 = true
            ·subst c23
             have H1 : (if t339 = (Int.tmod (rd t303 1) 12) then (if t361 = true then (none) else (if t360 = 0 then ((impl_ExprOk.f k t362).bind fun t367 => ((spec_ExprOk.f k t362).bind fun t368 => (some (t367 == t368)))) else (none))) else (none)) = some r:=by rw [if_pos rfl] at H;exact H
             clear H
             have H:=H1
             clear H1
             by_cases c24 : t339 = (Int.tmod (rd t303 1) 12)
             ·rw [if_pos c24] at H
              have c24b0 : (t339 == (Int.tmod (rd t303 1) 12)) = true:=beq_iff_eq.mpr c24
              have c24b1 : (t339 != (Int.tmod (rd t303 1) 12)) = false:=bne_eq_false_iff_eq.mpr c24
              clear c24
              by_cases c25 : t361 = true
              ·subst c25
               have H1 : (none) = some r:=by rw [if_pos rfl] at H;exact H
               clear H
               have H:=H1
               clear H1
               exact absurd H (by simp)
              ·replace c25:=Bool.eq_false_iff.mpr c25
               subst c25
               have H1 : (if t360 = 0 then ((impl_ExprOk.f k t362).bind fun t367 => ((spec_ExprOk.f k t362).bind fun t368 => (some (t367 == t368)))) else (none)) = some r:=by rw [if_neg (show ¬ (false = true) by decide)] at H;exact H
               clear H
               have H:=H1
               clear H1
               by_cases c26 : t360 = 0
               ·rw [if_pos c26] at H
                have c26b0 : (t360 == 0) = true:=beq_iff_eq.mpr c26
                have c26b1 : (t360 != 0) = false:=bne_eq_false_iff_eq.mpr c26
                clear c26
                replace H:=Option.bind_eq_some_iff.mp H
                obtain ⟨t367,A270,H⟩:=H
                replace H : ((spec_ExprOk.f k t362).bind fun t368 => (some (t367 == t368))) = some r:=H
                have A27:=zm_ A270
                clear A270
                replace H:=Option.bind_eq_some_iff.mp H
                obtain ⟨t368,A280,H⟩:=H
                replace H : (some (t367 == t368)) = some r:=H
                have A28:=zm_ A280
                clear A280
                obtain rfl:=Option.some.inj H
                go_enter Try.func3,Try.ntmps3
                try go_wp2_with (first|((with_reducible refine gate_callee (f:=9) rfl ?_);refine goesL_ (some 18) rfl rfl Try.func9 (by kernel_rfl) rfl #[.slice A0 l0.length c0] rfl zq_ ?_;(with_reducible refine (laws_big.calls _ _ l0 false _ ?side1 ?side2 A2.out).mono ?_);(case side1 => exact zC_);(case side2 => exact HC0.out);rintro e w' ⟨rfl,⟨nd,rfl⟩⟩;refine ⟨_,rfl,?_⟩)|((with_reducible refine gate_callee (f:=10) rfl ?_);refine goesL_ (some 20) rfl rfl Try.func10 (by kernel_rfl) rfl #[.slice A0 l0.length c0] rfl zq_ ?_;(with_reducible refine (spec_DrawPlaces.calls k _ _ l0 t303 _ ?side1 ?side2 A4.out).mono ?_);(case side1 => exact zC_);(case side2 => exact HC0.out);rintro e w29 ⟨v304,rfl,ho0,hb⟩;refine ⟨_,rfl,?_⟩;have n0_:=zm_ (Kd.R_lower ho0 (below_size zB_));have n1_:=zm_ (below_step zB_ hb);clear HB;have HO305:=n0_;have HB:=n1_;clear n0_ n1_;(try clear hb);(try clear hb2);(try clear hk);(try clear hi);(try clear ho0))|((with_reducible refine gate_callee (f:=11) rfl ?_);refine goesL_ (some 21) rfl rfl Try.func11 (by kernel_rfl) rfl #[.int .i64 6,.int .i64 99,.int .i64 99] rfl zq_ ?_;(with_reducible refine (laws_twoOf.calls 6 99 99 t306 _ A5.out).mono ?_);rintro e w30 ⟨v307,rfl,ho0,hb⟩;refine ⟨_,rfl,?_⟩;have n0_:=zm_ (Kd.R_below zt9_1 hb);have n1_:=zm_ (Kd.N_lower (Kd.N_mono (ok':=fun k_ => some k_ ≠ (v304 : Value).ownBlock) ho0 (fun k_ hk_ => (Kd.fresh' (Kd.R_lt zt9_1) k_ hk_))) (below_size zB_));have n2_:=zm_ (below_step zB_ hb);clear HO305;clear HB;have HO305:=n0_;have HO308:=n1_;have HB:=n2_;clear n0_ n1_ n2_;(try clear hb);(try clear hb2);(try clear hk);(try clear hi);(try clear ho0))|((with_reducible refine gate_dst (N:=4) rfl ?_);refine box_event ?hg (N:=4) ?hd (cs:=#[.slice none 0 0]) (t:=28) ?hr ?_;(case hd => rfl);(case hg => rfl);(case hr => first|(go_simp;done)|(go_simp;rfl));intro gb309 hg w31 hbox hb;have n0_:=zm_ (Kd.R_below zt9_1 hb);have n1_:=zm_ (Kd.N_below (Kd.N_elderB zt9_7 gb309 (Nat.le_of_eq hg.symm)) hb);have n2_:=zm_ (below_step zB_ hb);have n3_:=zm_ (hbox);have n4_:=zm_ ((by rw [hg];exact (below_size zB_) : w.heap.size ≤ gb309));have n5_:=zm_ ((by rw [hg];exact (below_size zB_) : w.heap.size ≤ gb309));clear HO305;clear HO308;clear HB;have HO305:=n0_;have HO308:=n1_;have HB:=n2_;have BK309:=n3_;have GW309:=n4_;have GE309:=n5_;clear n0_ n1_ n2_ n3_ n4_ n5_;clear hb hbox hg;obtain ⟨Ao32,co32,eo32⟩:=Kd.N_slice HO308.out;subst eo32;have hcz33_0 : w31.cell? ⟨gb309,0,none⟩ = some (.slice none 0 0):=(zc_ BK309.out 0).trans rfl;have hfz33_0:=zf_ BK309.out 0)|((with_reducible refine gate_dst (N:=24) rfl ?_);refine Kd.R_lit k87 _ 87 ?hg (N:=24) ?hd (xs:=([] : List (S87))) (inner:=[]) (ok:=fun _ => True) (okp:=fun _ => True) ?hr ?hp (fun _ hk => hk) trivial (Below.refl _ _) (Nat.le_refl _) (by simp) ?_;(case hd => rfl);(case hg => rfl);(case hr => first|(go_simp;done)|(go_simp;rfl));(case hp => exact (Reps.none _ _));intro v311 w34 ho35 hb hg_ hnew_;clear hg_ hnew_;(first|rw [← Ny310.out] at ho35|(simp only [Int.reduceToNat] at ho35;rw [← Ny310.out] at ho35));have n0_:=zm_ (Kd.R_below (by (with_reducible repeat (first|apply Kd.R_alloc|apply Kd.R_drewN|apply Kd.R_drew));exact (Kd.R_mono (Kd.R_far (p:=⟨gb309,0,none⟩) (Kd.R_types HO305.out BK309.out (by decide)) (fun _ hk => hk.2) (.slice Ao32 t306.length co32)) (fun _ h_ => h_.1))) hb);have n1_:=zm_ (Kd.N_elder' (by (with_reducible repeat (first|apply Kd.N_alloc|apply Kd.N_drewN|apply Kd.N_drew));exact (Kd.N_mono (Kd.N_far (p:=⟨gb309,0,none⟩) (Kd.N_mono HO308.out (fun k_ hk => (⟨hk,hk.2⟩ : _ ∧ k_ ≠ gb309))) (fun _ hk => hk.2) (.slice Ao32 t306.length co32)) (fun _ h_ => h_.1))) (Kd.R_base ho35) hb);have n2_:=zm_ (Kd.R_lower ho35 (below_size zt9_5));have n3_:=zm_ (blk_below (g:=gb309) (o:=.cells #[.slice Ao32 t306.length co32] 28 (0,0)) (by (with_reducible repeat first|refine zl_ ?_ _|refine zr_ ?_|refine zk_ ?_ _);refine blk_put (cs:=#[.slice none 0 0]) ?_ 0 _ rfl;(with_reducible repeat first|refine zl_ ?_ _|refine zr_ ?_|refine zk_ ?_ _);exact BK309.out) hb);have n4_:=zm_ (below_step zt9_5 hb);clear HO305;clear HO308;clear BK309;clear HB;have HO305:=n0_;have HO308:=n1_;have HO312:=n2_;have BK309:=n3_;have HB:=n4_;clear n0_ n1_ n2_ n3_ n4_;clear hb ho35;obtain ⟨Ao36,co36,eo36⟩:=Kd.R_slice HO312.out;subst eo36)|((with_reducible refine gate_callee (f:=12) rfl ?_);refine goesL_ (some 25) rfl rfl Try.func12 (by kernel_rfl) rfl #[.agg #[.slice Ao32 t306.length co32],.slice Ao36 y310.length co36,.int .i64 0] rfl zq_ ?_;(with_reducible refine (impl_EvalExpr.calls k _ _ t306 _ _ y310 0 t313 true _ ?side1 ?side2 ?side3 ?side4 A6.out).mono ?_);(case side1 => repeat (first|exact (Kd.N_reads' HO308.out).2.2|(with_reducible refine Kd.C_alloc ?_ _)|(with_reducible refine Kd.C_drewN ?_ _)|(with_reducible refine Kd.C_drew ?_)));(case side2 => exact (Kd.N_reads' HO308.out).2.1);(case side3 => repeat (first|exact (Kd.R_reads' HO312.out).2.2|(with_reducible refine Kd.C_alloc ?_ _)|(with_reducible refine Kd.C_drewN ?_ _)|(with_reducible refine Kd.C_drew ?_)));(case side4 => exact (Kd.R_reads' HO312.out).2.1);rintro e w37 ⟨rfl,hb⟩;refine ⟨_,rfl,?_⟩;have n0_:=zm_ (Kd.R_below zt9_1 hb);have n1_:=zm_ (Kd.N_below zt9_7 hb);have n2_:=zm_ (Kd.R_below zt9_2 hb);have n3_:=zm_ (blk_below (g:=gb309) (o:=.cells #[.slice Ao32 t306.length co32] 28 (0,0)) zt9_3 hb);have n4_:=zm_ (below_step zt9_5 hb);clear HO305;clear HO308;clear HO312;clear BK309;clear HB;have HO305:=n0_;have HO308:=n1_;have HO312:=n2_;have BK309:=n3_;have HB:=n4_;clear n0_ n1_ n2_ n3_ n4_;(try clear hb);obtain ⟨Ao38,co38,eo38⟩:=Kd.R_slice HO305.out;subst eo38;have p315 : 0 ≤ (0 : Int):=(by omega);have q315 : 0 < (t303.length : Int):=zo_;obtain ⟨ad315,e315,hx315_0⟩:=Kd.at_int (Kd.R_reads' HO305.out).2.2 0 p315 q315;cases e315;have qi315 : (0 < t303.length) = True:=eq_true (by omega);(try rw [show ((0 : Int)).toNat = 0 from rfl] at hx315_0);(try rw [Addr.add_zero'] at hx315_0);replace p315:=eq_true p315;replace q315:=eq_true q315)|((with_reducible refine gate_callee (f:=11) rfl ?_);refine goesL_ (some 33) rfl rfl Try.func11 (by kernel_rfl) rfl #[.int .i64 7,.int .i64 (Int.tmod (rd t303 0) 100),.int .i64 0] rfl zq_ ?_;(with_reducible refine (laws_twoOf.calls 7 (Int.tmod (rd t303 0) 100) 0 t316 _ A8.out).mono ?_);rintro e w39 ⟨v317,rfl,ho0,hb⟩;refine ⟨_,rfl,?_⟩;have n0_:=zm_ (Kd.R_below zt9_1 hb);have n1_:=zm_ (Kd.N_elder' zt9_7 (Kd.N_base ho0) hb);have n2_:=zm_ (Kd.R_below zt9_2 hb);have n3_:=zm_ (Kd.N_lower (Kd.N_mono (ok':=fun k_ => some k_ ≠ (.slice (some ad315) t303.length co38 : Value).ownBlock ∧ some k_ ≠ (.slice Ao32 t306.length co32 : Value).ownBlock ∧ some k_ ≠ (.slice Ao36 y310.length co36 : Value).ownBlock ∧ k_ ≠ gb309) ho0 (fun k_ hk_ => ⟨(Kd.fresh' (Kd.R_lt zt9_1) k_ hk_),(Kd.fresh' (Kd.N_lt zt9_7) k_ hk_),(Kd.fresh' (Kd.R_lt zt9_2) k_ hk_),(Kd.freshB (g:=gb309) (o:=.cells #[.slice Ao32 t306.length co32] 28 (0,0)) zt9_3 k_ hk_)⟩)) (below_size zt9_5));have n4_:=zm_ (blk_below (g:=gb309) (o:=.cells #[.slice Ao32 t306.length co32] 28 (0,0)) zt9_3 hb);have n5_:=zm_ (below_step zt9_5 hb);clear HO305;clear HO308;clear HO312;clear BK309;clear HB;have HO305:=n0_;have HO308:=n1_;have HO312:=n2_;have HO318:=n3_;have BK309:=n4_;have HB:=n5_;clear n0_ n1_ n2_ n3_ n4_ n5_;(try clear hb);(try clear hb2);(try clear hk);(try clear hi);(try clear ho0))|((with_reducible refine gate_dst (N:=34) rfl ?_);refine Kd.R_lit k87 _ 87 ?hg (N:=34) ?hd (xs:=([] : List (S87))) (inner:=[]) (ok:=fun _ => True) (okp:=fun _ => True) ?hr ?hp (fun _ hk => hk) trivial (Below.refl _ _) (Nat.le_refl _) (by simp) ?_;(case hd => rfl);(case hg => rfl);(case hr => first|(go_simp;done)|(go_simp;rfl));(case hp => exact (Reps.none _ _));intro v320 w40 ho41 hb hg_ hnew_;clear hg_ hnew_;(first|rw [← Ny319.out] at ho41|(simp only [Int.reduceToNat] at ho41;rw [← Ny319.out] at ho41));have n0_:=zm_ (Kd.R_below zt9_1 hb);have n1_:=zm_ (Kd.N_elder' zt9_7 (Kd.R_base ho41) hb);have n2_:=zm_ (Kd.R_elder' zt9_2 (Kd.R_base ho41) hb);have n3_:=zm_ (Kd.N_elder' zt9_8 (Kd.R_base ho41) hb);have n4_:=zm_ (Kd.R_lower (Kd.R_new' ho41 (Kd.R_lt zt9_2)) (below_size zt9_5));have n5_:=zm_ (blk_below (g:=gb309) (o:=.cells #[.slice Ao32 t306.length co32] 28 (0,0)) zt9_3 hb);have n6_:=zm_ (below_step zt9_5 hb);clear HO305;clear HO308;clear HO312;clear HO318;clear BK309;clear HB;have HO305:=n0_;have HO308:=n1_;have HO312:=n2_;have HO318:=n3_;have HO321:=n4_;have BK309:=n5_;have HB:=n6_;clear n0_ n1_ n2_ n3_ n4_ n5_ n6_;clear hb ho41;obtain ⟨Ao42,co42,eo42⟩:=Kd.N_slice HO318.out;subst eo42;obtain ⟨Ao43,co43,eo43⟩:=Kd.R_slice HO321.out;subst eo43)|((with_reducible refine gate_callee (f:=12) rfl ?_);refine goesL_ (some 35) rfl rfl Try.func12 (by kernel_rfl) rfl #[.agg #[.slice Ao42 t316.length co42],.slice Ao43 y319.length co43,.int .i64 0] rfl zq_ ?_;(with_reducible refine (impl_EvalExpr.calls k _ _ t316 _ _ y319 0 t322 false _ ?side1 ?side2 ?side3 ?side4 A9.out).mono ?_);(case side1 => repeat (first|exact (Kd.N_reads' HO318.out).2.2|(with_reducible refine Kd.C_alloc ?_ _)|(with_reducible refine Kd.C_drewN ?_ _)|(with_reducible refine Kd.C_drew ?_)));(case side2 => exact (Kd.N_reads' HO318.out).2.1);(case side3 => repeat (first|exact (Kd.R_reads' HO321.out).2.2|(with_reducible refine Kd.C_alloc ?_ _)|(with_reducible refine Kd.C_drewN ?_ _)|(with_reducible refine Kd.C_drew ?_)));(case side4 => exact (Kd.R_reads' HO321.out).2.1);rintro e w44 ⟨rfl,hb⟩;refine ⟨_,rfl,?_⟩;have n0_:=zm_ (Kd.R_below zt9_1 hb);have n1_:=zm_ (Kd.N_below zt9_7 hb);have n2_:=zm_ (Kd.R_below zt9_2 hb);have n3_:=zm_ (Kd.N_below zt9_8 hb);have n4_:=zm_ (Kd.R_below zt9_6 hb);have n5_:=zm_ (blk_below (g:=gb309) (o:=.cells #[.slice Ao32 t306.length co32] 28 (0,0)) zt9_3 hb);have n6_:=zm_ (below_step zt9_5 hb);clear HO305;clear HO308;clear HO312;clear HO318;clear HO321;clear BK309;clear HB;have HO305:=n0_;have HO308:=n1_;have HO312:=n2_;have HO318:=n3_;have HO321:=n4_;have BK309:=n5_;have HB:=n6_;clear n0_ n1_ n2_ n3_ n4_ n5_ n6_;(try clear hb))|((with_reducible refine gate_dst (N:=40) rfl ?_);refine Kd.N_lit k34 _ 34 ?hg (N':=40) ?hd (xs:=([(⟨2,0,(⟨#[97]⟩ : ByteArray),([] : List Int)⟩ : S34)] : List (S34))) (inner:=[.int .i64 2,.int .i64 0,.string (⟨#[97]⟩ : ByteArray),.slice none 0 0]) (ok:=(fun k_ => some k_ ≠ (.slice (some ad315) t303.length co38 : Value).ownBlock ∧ some k_ ≠ (.slice Ao32 t306.length co32 : Value).ownBlock ∧ some k_ ≠ (.slice Ao36 y310.length co36 : Value).ownBlock ∧ some k_ ≠ (.slice Ao42 t316.length co42 : Value).ownBlock ∧ some k_ ≠ (.slice Ao43 y319.length co43 : Value).ownBlock ∧ k_ ≠ gb309)) (okp:=(fun k_ => some k_ ≠ (.slice (some ad315) t303.length co38 : Value).ownBlock ∧ some k_ ≠ (.slice Ao32 t306.length co32 : Value).ownBlock ∧ some k_ ≠ (.slice Ao36 y310.length co36 : Value).ownBlock ∧ some k_ ≠ (.slice Ao42 t316.length co42 : Value).ownBlock ∧ some k_ ≠ (.slice Ao43 y319.length co43 : Value).ownBlock ∧ k_ ≠ gb309)) ?hr ?hp (fun _ hk => hk) ((show ∀ k_,(_ : World).heap.size ≤ k_ → (fun k_ => some k_ ≠ (.slice (some ad315) t303.length co38 : Value).ownBlock ∧ some k_ ≠ (.slice Ao32 t306.length co32 : Value).ownBlock ∧ some k_ ≠ (.slice Ao36 y310.length co36 : Value).ownBlock ∧ some k_ ≠ (.slice Ao42 t316.length co42 : Value).ownBlock ∧ some k_ ≠ (.slice Ao43 y319.length co43 : Value).ownBlock ∧ k_ ≠ gb309) k_ from fun k_ hk => ⟨Kd.fresh' (Kd.R_lt zt9_1) k_ hk,Kd.fresh' (Kd.N_lt zt9_7) k_ hk,Kd.fresh' (Kd.R_lt zt9_2) k_ hk,Kd.fresh' (Kd.N_lt zt9_8) k_ hk,Kd.fresh' (Kd.R_lt zt9_6) k_ hk,Kd.freshB (g:=gb309) (o:=.cells #[.slice Ao32 t306.length co32] 28 (0,0)) zt9_3 k_ hk⟩) _ (Nat.le_refl _)) (Below.refl _ _) (Nat.le_refl _) (by simp) ?_;(case hd => rfl);(case hg => rfl);(case hr => first|(go_simp;done)|(go_simp;rfl));(case hp => exact (Reps.c4 (show Kd.FK k34 _ _ (⟨2,0,(⟨#[97]⟩ : ByteArray),([] : List Int)⟩ : S34) [.int .i64 2,.int .i64 0,.string (⟨#[97]⟩ : ByteArray),.slice none 0 0] from (k34_mkF _ _ (⟨2,0,(⟨#[97]⟩ : ByteArray),([] : List Int)⟩ : S34) (Nat.le_refl _) (Kd.F_nil _ _ _))) (Reps.none _ _)));intro v325 w45 ho46 hb hg_ hnew_;clear hg_ hnew_;(first|rw [← Ny324.out] at ho46|(simp only [Int.reduceToNat] at ho46;rw [← Ny324.out] at ho46));have n0_:=zm_ (Kd.R_below zt9_1 hb);have n1_:=zm_ (Kd.N_elder' zt9_7 (Kd.N_base ho46) hb);have n2_:=zm_ (Kd.R_below zt9_2 hb);have n3_:=zm_ (Kd.N_elder' zt9_8 (Kd.N_base ho46) hb);have n4_:=zm_ (Kd.R_below zt9_6 hb);have n5_:=zm_ (Kd.N_lower ho46 (below_size zt9_5));have n6_:=zm_ (blk_below (g:=gb309) (o:=.cells #[.slice Ao32 t306.length co32] 28 (0,0)) zt9_3 hb);have n7_:=zm_ (below_step zt9_5 hb);clear HO305;clear HO308;clear HO312;clear HO318;clear HO321;clear BK309;clear HB;have HO305:=n0_;have HO308:=n1_;have HO312:=n2_;have HO318:=n3_;have HO321:=n4_;have HO326:=n5_;have BK309:=n6_;have HB:=n7_;clear n0_ n1_ n2_ n3_ n4_ n5_ n6_ n7_;clear hb ho46;obtain ⟨Ao47,co47,eo47⟩:=Kd.N_slice HO326.out;subst eo47)|((with_reducible refine gate_dst (N:=42) rfl ?_);refine Kd.R_lit k87 _ 87 ?hg (N:=42) ?hd (xs:=([] : List (S87))) (inner:=[]) (ok:=fun _ => True) (okp:=fun _ => True) ?hr ?hp (fun _ hk => hk) trivial (Below.refl _ _) (Nat.le_refl _) (by simp) ?_;(case hd => rfl);(case hg => rfl);(case hr => first|(go_simp;done)|(go_simp;rfl));(case hp => exact (Reps.none _ _));intro v328 w48 ho49 hb hg_ hnew_;clear hg_ hnew_;(first|rw [← Ny327.out] at ho49|(simp only [Int.reduceToNat] at ho49;rw [← Ny327.out] at ho49));have n0_:=zm_ (Kd.R_below zt9_1 hb);have n1_:=zm_ (Kd.N_elder' zt9_7 (Kd.R_base ho49) hb);have n2_:=zm_ (Kd.R_elder' zt9_2 (Kd.R_base ho49) hb);have n3_:=zm_ (Kd.N_elder' zt9_8 (Kd.R_base ho49) hb);have n4_:=zm_ (Kd.R_elder' zt9_6 (Kd.R_base ho49) hb);have n5_:=zm_ (Kd.N_elder' zt9_10 (Kd.R_base ho49) hb);have n6_:=zm_ (Kd.R_lower (Kd.R_new' (Kd.R_new' ho49 (Kd.R_lt zt9_2)) (Kd.R_lt zt9_6)) (below_size zt9_5));have n7_:=zm_ (blk_below (g:=gb309) (o:=.cells #[.slice Ao32 t306.length co32] 28 (0,0)) zt9_3 hb);have n8_:=zm_ (below_step zt9_5 hb);clear HO305;clear HO308;clear HO312;clear HO318;clear HO321;clear HO326;clear BK309;clear HB;have HO305:=n0_;have HO308:=n1_;have HO312:=n2_;have HO318:=n3_;have HO321:=n4_;have HO326:=n5_;have HO329:=n6_;have BK309:=n7_;have HB:=n8_;clear n0_ n1_ n2_ n3_ n4_ n5_ n6_ n7_ n8_;clear hb ho49;obtain ⟨Ao50,co50,eo50⟩:=Kd.R_slice HO329.out;subst eo50)|((with_reducible refine gate_callee (f:=12) rfl ?_);refine goesL_ (some 43) rfl rfl Try.func12 (by kernel_rfl) rfl #[.agg #[.slice Ao47 y324.length co47],.slice Ao50 y327.length co50,.int .i64 0] rfl zq_ ?_;(with_reducible refine (impl_EvalExpr.calls k _ _ y324 _ _ y327 0 t330 false _ ?side1 ?side2 ?side3 ?side4 A10.out).mono ?_);(case side1 => repeat (first|exact (Kd.N_reads' HO326.out).2.2|(with_reducible refine Kd.C_alloc ?_ _)|(with_reducible refine Kd.C_drewN ?_ _)|(with_reducible refine Kd.C_drew ?_)));(case side2 => exact (Kd.N_reads' HO326.out).2.1);(case side3 => repeat (first|exact (Kd.R_reads' HO329.out).2.2|(with_reducible refine Kd.C_alloc ?_ _)|(with_reducible refine Kd.C_drewN ?_ _)|(with_reducible refine Kd.C_drew ?_)));(case side4 => exact (Kd.R_reads' HO329.out).2.1);rintro e w51 ⟨rfl,hb⟩;refine ⟨_,rfl,?_⟩;have n0_:=zm_ (Kd.R_below zt9_1 hb);have n1_:=zm_ (Kd.N_below zt9_7 hb);have n2_:=zm_ (Kd.R_below zt9_2 hb);have n3_:=zm_ (Kd.N_below zt9_8 hb);have n4_:=zm_ (Kd.R_below zt9_6 hb);have n5_:=zm_ (Kd.N_below zt9_10 hb);have n6_:=zm_ (Kd.R_below zt9_9 hb);have n7_:=zm_ (blk_below (g:=gb309) (o:=.cells #[.slice Ao32 t306.length co32] 28 (0,0)) zt9_3 hb);have n8_:=zm_ (below_step zt9_5 hb);clear HO305;clear HO308;clear HO312;clear HO318;clear HO321;clear HO326;clear HO329;clear BK309;clear HB;have HO305:=n0_;have HO308:=n1_;have HO312:=n2_;have HO318:=n3_;have HO321:=n4_;have HO326:=n5_;have HO329:=n6_;have BK309:=n7_;have HB:=n8_;clear n0_ n1_ n2_ n3_ n4_ n5_ n6_ n7_ n8_;(try clear hb))|((with_reducible refine gate_dst (N:=48) rfl ?_);refine Kd.N_lit k34 _ 34 ?hg (N':=48) ?hd (xs:=([(⟨3,0,(⟨#[]⟩ : ByteArray),([] : List Int)⟩ : S34)] : List (S34))) (inner:=[.int .i64 3,.int .i64 0,.string (⟨#[]⟩ : ByteArray),.slice none 0 0]) (ok:=(fun k_ => some k_ ≠ (.slice (some ad315) t303.length co38 : Value).ownBlock ∧ some k_ ≠ (.slice Ao32 t306.length co32 : Value).ownBlock ∧ some k_ ≠ (.slice Ao36 y310.length co36 : Value).ownBlock ∧ some k_ ≠ (.slice Ao42 t316.length co42 : Value).ownBlock ∧ some k_ ≠ (.slice Ao43 y319.length co43 : Value).ownBlock ∧ some k_ ≠ (.slice Ao47 y324.length co47 : Value).ownBlock ∧ some k_ ≠ (.slice Ao50 y327.length co50 : Value).ownBlock ∧ k_ ≠ gb309)) (okp:=(fun k_ => some k_ ≠ (.slice (some ad315) t303.length co38 : Value).ownBlock ∧ some k_ ≠ (.slice Ao32 t306.length co32 : Value).ownBlock ∧ some k_ ≠ (.slice Ao36 y310.length co36 : Value).ownBlock ∧ some k_ ≠ (.slice Ao42 t316.length co42 : Value).ownBlock ∧ some k_ ≠ (.slice Ao43 y319.length co43 : Value).ownBlock ∧ some k_ ≠ (.slice Ao47 y324.length co47 : Value).ownBlock ∧ some k_ ≠ (.slice Ao50 y327.length co50 : Value).ownBlock ∧ k_ ≠ gb309)) ?hr ?hp (fun _ hk => hk) ((show ∀ k_,(_ : World).heap.size ≤ k_ → (fun k_ => some k_ ≠ (.slice (some ad315) t303.length co38 : Value).ownBlock ∧ some k_ ≠ (.slice Ao32 t306.length co32 : Value).ownBlock ∧ some k_ ≠ (.slice Ao36 y310.length co36 : Value).ownBlock ∧ some k_ ≠ (.slice Ao42 t316.length co42 : Value).ownBlock ∧ some k_ ≠ (.slice Ao43 y319.length co43 : Value).ownBlock ∧ some k_ ≠ (.slice Ao47 y324.length co47 : Value).ownBlock ∧ some k_ ≠ (.slice Ao50 y327.length co50 : Value).ownBlock ∧ k_ ≠ gb309) k_ from fun k_ hk => ⟨Kd.fresh' (Kd.R_lt zt9_1) k_ hk,Kd.fresh' (Kd.N_lt zt9_7) k_ hk,Kd.fresh' (Kd.R_lt zt9_2) k_ hk,Kd.fresh' (Kd.N_lt zt9_8) k_ hk,Kd.fresh' (Kd.R_lt zt9_6) k_ hk,Kd.fresh' (Kd.N_lt zt9_10) k_ hk,Kd.fresh' (Kd.R_lt zt9_9) k_ hk,Kd.freshB (g:=gb309) (o:=.cells #[.slice Ao32 t306.length co32] 28 (0,0)) zt9_3 k_ hk⟩) _ (Nat.le_refl _)) (Below.refl _ _) (Nat.le_refl _) (by simp) ?_;(case hd => rfl);(case hg => rfl);(case hr => first|(go_simp;done)|(go_simp;rfl));(case hp => exact (Reps.c4 (show Kd.FK k34 _ _ (⟨3,0,(⟨#[]⟩ : ByteArray),([] : List Int)⟩ : S34) [.int .i64 3,.int .i64 0,.string (⟨#[]⟩ : ByteArray),.slice none 0 0] from (k34_mkF _ _ (⟨3,0,(⟨#[]⟩ : ByteArray),([] : List Int)⟩ : S34) (Nat.le_refl _) (Kd.F_nil _ _ _))) (Reps.none _ _)));intro v333 w52 ho53 hb hg_ hnew_;clear hg_ hnew_;(first|rw [← Ny332.out] at ho53|(simp only [Int.reduceToNat] at ho53;rw [← Ny332.out] at ho53));have n0_:=zm_ (Kd.R_below zt9_1 hb);have n1_:=zm_ (Kd.N_elder' zt9_7 (Kd.N_base ho53) hb);have n2_:=zm_ (Kd.R_below zt9_2 hb);have n3_:=zm_ (Kd.N_elder' zt9_8 (Kd.N_base ho53) hb);have n4_:=zm_ (Kd.R_below zt9_6 hb);have n5_:=zm_ (Kd.N_elder' zt9_10 (Kd.N_base ho53) hb);have n6_:=zm_ (Kd.R_below zt9_9 hb);have n7_:=zm_ (Kd.N_lower ho53 (below_size zt9_5));have n8_:=zm_ (blk_below (g:=gb309) (o:=.cells #[.slice Ao32 t306.length co32] 28 (0,0)) zt9_3 hb);have n9_:=zm_ (below_step zt9_5 hb);clear HO305;clear HO308;clear HO312;clear HO318;clear HO321;clear HO326;clear HO329;clear BK309;clear HB;have HO305:=n0_;have HO308:=n1_;have HO312:=n2_;have HO318:=n3_;have HO321:=n4_;have HO326:=n5_;have HO329:=n6_;have HO334:=n7_;have BK309:=n8_;have HB:=n9_;clear n0_ n1_ n2_ n3_ n4_ n5_ n6_ n7_ n8_ n9_;clear hb ho53;obtain ⟨Ao54,co54,eo54⟩:=Kd.N_slice HO334.out;subst eo54)|((with_reducible refine gate_dst (N:=50) rfl ?_);refine Kd.R_lit k87 _ 87 ?hg (N:=50) ?hd (xs:=([] : List (S87))) (inner:=[]) (ok:=fun _ => True) (okp:=fun _ => True) ?hr ?hp (fun _ hk => hk) trivial (Below.refl _ _) (Nat.le_refl _) (by simp) ?_;(case hd => rfl);(case hg => rfl);(case hr => first|(go_simp;done)|(go_simp;rfl));(case hp => exact (Reps.none _ _));intro v336 w55 ho56 hb hg_ hnew_;clear hg_ hnew_;(first|rw [← Ny335.out] at ho56|(simp only [Int.reduceToNat] at ho56;rw [← Ny335.out] at ho56));have n0_:=zm_ (Kd.R_below zt9_1 hb);have n1_:=zm_ (Kd.N_elder' zt9_7 (Kd.R_base ho56) hb);have n2_:=zm_ (Kd.R_elder' zt9_2 (Kd.R_base ho56) hb);have n3_:=zm_ (Kd.N_elder' zt9_8 (Kd.R_base ho56) hb);have n4_:=zm_ (Kd.R_elder' zt9_6 (Kd.R_base ho56) hb);have n5_:=zm_ (Kd.N_elder' zt9_10 (Kd.R_base ho56) hb);have n6_:=zm_ (Kd.R_elder' zt9_9 (Kd.R_base ho56) hb);have n7_:=zm_ (Kd.N_elder' zt9_13 (Kd.R_base ho56) hb);have n8_:=zm_ (Kd.R_lower (Kd.R_new' (Kd.R_new' (Kd.R_new' ho56 (Kd.R_lt zt9_2)) (Kd.R_lt zt9_6)) (Kd.R_lt zt9_9)) (below_size zt9_5));have n9_:=zm_ (blk_below (g:=gb309) (o:=.cells #[.slice Ao32 t306.length co32] 28 (0,0)) zt9_3 hb);have n10_:=zm_ (below_step zt9_5 hb);clear HO305;clear HO308;clear HO312;clear HO318;clear HO321;clear HO326;clear HO329;clear HO334;clear BK309;clear HB;have HO305:=n0_;have HO308:=n1_;have HO312:=n2_;have HO318:=n3_;have HO321:=n4_;have HO326:=n5_;have HO329:=n6_;have HO334:=n7_;have HO337:=n8_;have BK309:=n9_;have HB:=n10_;clear n0_ n1_ n2_ n3_ n4_ n5_ n6_ n7_ n8_ n9_ n10_;clear hb ho56;have p338 : 0 ≤ (1 : Int):=(by omega);have q338 : 1 < (t303.length : Int):=zo_;obtain ⟨ad338,e338,hx338_0⟩:=Kd.at_int (Kd.R_reads' HO305.out).2.2 1 p338 q338;obtain rfl : ad315 = ad338:=(by injection e338);(try simp only [show (1 : Int).toNat = 1 from rfl,Nat.reduceMul,Nat.reduceEqDiff,Go.Addr.add,↓reduceIte] at hx338_0);have qi338 : (1 < t303.length) = True:=eq_true (by omega);(try rw [show ((1 : Int)).toNat = 1 from rfl] at hx338_0);replace p338:=eq_true p338;replace q338:=eq_true q338;obtain ⟨Ao57,co57,eo57⟩:=Kd.R_slice HO337.out;subst eo57)|((with_reducible refine gate_callee (f:=12) rfl ?_);refine goesL_ (some 55) rfl rfl Try.func12 (by kernel_rfl) rfl #[.agg #[.slice Ao54 y332.length co54],.slice Ao57 y335.length co57,.int .i64 (Int.tmod (rd t303 1) 12)] rfl zq_ ?_;(with_reducible refine (impl_EvalExpr.calls k _ _ y332 _ _ y335 (Int.tmod (rd t303 1) 12) t339 true _ ?side1 ?side2 ?side3 ?side4 A12.out).mono ?_);(case side1 => repeat (first|exact (Kd.N_reads' HO334.out).2.2|(with_reducible refine Kd.C_alloc ?_ _)|(with_reducible refine Kd.C_drewN ?_ _)|(with_reducible refine Kd.C_drew ?_)));(case side2 => exact (Kd.N_reads' HO334.out).2.1);(case side3 => repeat (first|exact (Kd.R_reads' HO337.out).2.2|(with_reducible refine Kd.C_alloc ?_ _)|(with_reducible refine Kd.C_drewN ?_ _)|(with_reducible refine Kd.C_drew ?_)));(case side4 => exact (Kd.R_reads' HO337.out).2.1);rintro e w58 ⟨rfl,hb⟩;refine ⟨_,rfl,?_⟩;have n0_:=zm_ (Kd.R_below zt9_1 hb);have n1_:=zm_ (Kd.N_below zt9_7 hb);have n2_:=zm_ (Kd.R_below zt9_2 hb);have n3_:=zm_ (Kd.N_below zt9_8 hb);have n4_:=zm_ (Kd.R_below zt9_6 hb);have n5_:=zm_ (Kd.N_below zt9_10 hb);have n6_:=zm_ (Kd.R_below zt9_9 hb);have n7_:=zm_ (Kd.N_below zt9_13 hb);have n8_:=zm_ (Kd.R_below zt9_11 hb);have n9_:=zm_ (blk_below (g:=gb309) (o:=.cells #[.slice Ao32 t306.length co32] 28 (0,0)) zt9_3 hb);have n10_:=zm_ (below_step zt9_5 hb);clear HO305;clear HO308;clear HO312;clear HO318;clear HO321;clear HO326;clear HO329;clear HO334;clear HO337;clear BK309;clear HB;have HO305:=n0_;have HO308:=n1_;have HO312:=n2_;have HO318:=n3_;have HO321:=n4_;have HO326:=n5_;have HO329:=n6_;have HO334:=n7_;have HO337:=n8_;have BK309:=n9_;have HB:=n10_;clear n0_ n1_ n2_ n3_ n4_ n5_ n6_ n7_ n8_ n9_ n10_;(try clear hb);have hcz59_0 : w58.cell? ⟨gb309,0,none⟩ = some (.slice Ao32 t306.length co32):=(zc_ BK309.out 0).trans rfl;have hfz59_0:=zf_ BK309.out 0)|((with_reducible refine gate_dst (N:=13) rfl ?_);refine box_event ?hg (N:=13) ?hd (cs:=#[.slice none 0 0]) (t:=28) ?hr ?_;(case hd => rfl);(case hg => rfl);(case hr => first|(go_simp;done)|(go_simp;rfl));intro gb341 hg w60 hbox hb;have n0_:=zm_ (Kd.R_below zt9_1 hb);have n1_:=zm_ (Kd.N_below (Kd.N_elderB zt9_7 gb341 (Nat.le_of_eq hg.symm)) hb);have n2_:=zm_ (Kd.R_below zt9_2 hb);have n3_:=zm_ (Kd.N_below (Kd.N_elderB zt9_8 gb341 (Nat.le_of_eq hg.symm)) hb);have n4_:=zm_ (Kd.R_below zt9_6 hb);have n5_:=zm_ (Kd.N_below (Kd.N_elderB zt9_10 gb341 (Nat.le_of_eq hg.symm)) hb);have n6_:=zm_ (Kd.R_below zt9_9 hb);have n7_:=zm_ (Kd.N_below (Kd.N_elderB zt9_13 gb341 (Nat.le_of_eq hg.symm)) hb);have n8_:=zm_ (Kd.R_below zt9_11 hb);have n9_:=zm_ (blk_below (g:=gb309) (o:=.cells #[.slice Ao32 t306.length co32] 28 (0,0)) zt9_3 hb);have n10_:=zm_ (below_step zt9_5 hb);have n11_:=zm_ (hbox);have n12_:=zm_ ((by rw [hg];exact (below_size zt9_5) : w.heap.size ≤ gb341));have n13_:=zm_ ((by rw [hg];exact (below_size zt9_5) : w.heap.size ≤ gb341));have n14_:=zm_ ((by rw [hg];exact Nat.ne_of_lt (blk_lt (g:=gb309) (o:=.cells #[.slice Ao32 t306.length co32] 28 (0,0)) zt9_3) : gb309 ≠ gb341));have n15_:=zm_ ((by rw [hg];exact Nat.ne_of_gt (blk_lt (g:=gb309) (o:=.cells #[.slice Ao32 t306.length co32] 28 (0,0)) zt9_3) : gb341 ≠ gb309));clear HO305;clear HO308;clear HO312;clear HO318;clear HO321;clear HO326;clear HO329;clear HO334;clear HO337;clear BK309;clear HB;have HO305:=n0_;have HO308:=n1_;have HO312:=n2_;have HO318:=n3_;have HO321:=n4_;have HO326:=n5_;have HO329:=n6_;have HO334:=n7_;have HO337:=n8_;have BK309:=n9_;have HB:=n10_;have BK341:=n11_;have GW341:=n12_;have GE341:=n13_;have NB309_341:=n14_;have NB341_309:=n15_;clear n0_ n1_ n2_ n3_ n4_ n5_ n6_ n7_ n8_ n9_ n10_ n11_ n12_ n13_ n14_ n15_;clear hb hbox hg;have hnb61:=NB341_309.out;have hnc61:=NB309_341.out;have hcz62_0 : w60.cell? ⟨gb341,0,none⟩ = some (.slice none 0 0):=(zc_ BK341.out 0).trans rfl;have hfz62_0:=zf_ BK341.out 0)|((with_reducible refine gate_dst (N:=59) rfl ?_);refine Kd.N_lit k34 _ 34 ?hg (N':=59) ?hd (xs:=([] : List (S34))) (inner:=[]) (ok:=(fun k_ => some k_ ≠ (.slice (some ad315) t303.length co38 : Value).ownBlock ∧ some k_ ≠ (.slice Ao32 t306.length co32 : Value).ownBlock ∧ some k_ ≠ (.slice Ao36 y310.length co36 : Value).ownBlock ∧ some k_ ≠ (.slice Ao42 t316.length co42 : Value).ownBlock ∧ some k_ ≠ (.slice Ao43 y319.length co43 : Value).ownBlock ∧ some k_ ≠ (.slice Ao47 y324.length co47 : Value).ownBlock ∧ some k_ ≠ (.slice Ao50 y327.length co50 : Value).ownBlock ∧ some k_ ≠ (.slice Ao54 y332.length co54 : Value).ownBlock ∧ some k_ ≠ (.slice Ao57 y335.length co57 : Value).ownBlock ∧ k_ ≠ gb309 ∧ k_ ≠ gb341)) (okp:=(fun k_ => some k_ ≠ (.slice (some ad315) t303.length co38 : Value).ownBlock ∧ some k_ ≠ (.slice Ao32 t306.length co32 : Value).ownBlock ∧ some k_ ≠ (.slice Ao36 y310.length co36 : Value).ownBlock ∧ some k_ ≠ (.slice Ao42 t316.length co42 : Value).ownBlock ∧ some k_ ≠ (.slice Ao43 y319.length co43 : Value).ownBlock ∧ some k_ ≠ (.slice Ao47 y324.length co47 : Value).ownBlock ∧ some k_ ≠ (.slice Ao50 y327.length co50 : Value).ownBlock ∧ some k_ ≠ (.slice Ao54 y332.length co54 : Value).ownBlock ∧ some k_ ≠ (.slice Ao57 y335.length co57 : Value).ownBlock ∧ k_ ≠ gb309 ∧ k_ ≠ gb341)) ?hr ?hp (fun _ hk => hk) ((show ∀ k_,(_ : World).heap.size ≤ k_ → (fun k_ => some k_ ≠ (.slice (some ad315) t303.length co38 : Value).ownBlock ∧ some k_ ≠ (.slice Ao32 t306.length co32 : Value).ownBlock ∧ some k_ ≠ (.slice Ao36 y310.length co36 : Value).ownBlock ∧ some k_ ≠ (.slice Ao42 t316.length co42 : Value).ownBlock ∧ some k_ ≠ (.slice Ao43 y319.length co43 : Value).ownBlock ∧ some k_ ≠ (.slice Ao47 y324.length co47 : Value).ownBlock ∧ some k_ ≠ (.slice Ao50 y327.length co50 : Value).ownBlock ∧ some k_ ≠ (.slice Ao54 y332.length co54 : Value).ownBlock ∧ some k_ ≠ (.slice Ao57 y335.length co57 : Value).ownBlock ∧ k_ ≠ gb309 ∧ k_ ≠ gb341) k_ from fun k_ hk => ⟨Kd.fresh' (Kd.R_lt zt9_24) k_ hk,Kd.fresh' (Kd.N_lt zt9_20) k_ hk,Kd.fresh' (Kd.R_lt zt9_25) k_ hk,Kd.fresh' (Kd.N_lt zt9_21) k_ hk,Kd.fresh' (Kd.R_lt zt9_26) k_ hk,Kd.fresh' (Kd.N_lt zt9_22) k_ hk,Kd.fresh' (Kd.R_lt zt9_27) k_ hk,Kd.fresh' (Kd.N_lt zt9_23) k_ hk,Kd.fresh' (Kd.R_lt zt9_28) k_ hk,Kd.freshB (g:=gb309) (o:=.cells #[.slice Ao32 t306.length co32] 28 (0,0)) zt9_18 k_ hk,Kd.freshB (g:=gb341) (o:=.cells #[.slice Ao32 t306.length co32] 28 (0,0)) zt9_33 k_ hk⟩) _ (Nat.le_refl _)) (Below.refl _ _) (Nat.le_refl _) (by simp) ?_;(case hd => rfl);(case hg => rfl);(case hr => first|(go_simp;done)|(go_simp;rfl));(case hp => exact (Reps.none _ _));intro v343 w63 ho64 hb hg_ hnew_;clear hg_ hnew_;(first|rw [← Ny342.out] at ho64|(simp only [Int.reduceToNat] at ho64;rw [← Ny342.out] at ho64));have n0_:=zm_ (Kd.R_below zt9_24 hb);have n1_:=zm_ (Kd.N_elder' zt9_20 (Kd.N_base ho64) hb);have n2_:=zm_ (Kd.R_below zt9_25 hb);have n3_:=zm_ (Kd.N_elder' zt9_21 (Kd.N_base ho64) hb);have n4_:=zm_ (Kd.R_below zt9_26 hb);have n5_:=zm_ (Kd.N_elder' zt9_22 (Kd.N_base ho64) hb);have n6_:=zm_ (Kd.R_below zt9_27 hb);have n7_:=zm_ (Kd.N_elder' zt9_23 (Kd.N_base ho64) hb);have n8_:=zm_ (Kd.R_below zt9_28 hb);have n9_:=zm_ (Kd.N_lower ho64 (below_size zt9_4));have n10_:=zm_ (blk_below (g:=gb309) (o:=.cells #[.slice Ao32 t306.length co32] 28 (0,0)) zt9_18 hb);have n11_:=zm_ (blk_below (g:=gb341) (o:=.cells #[.slice Ao32 t306.length co32] 28 (0,0)) zt9_33 hb);have n12_:=zm_ (below_step zt9_4 hb);clear HO305;clear HO308;clear HO312;clear HO318;clear HO321;clear HO326;clear HO329;clear HO334;clear HO337;clear BK309;clear BK341;clear HB;have HO305:=n0_;have HO308:=n1_;have HO312:=n2_;have HO318:=n3_;have HO321:=n4_;have HO326:=n5_;have HO329:=n6_;have HO334:=n7_;have HO337:=n8_;have HO344:=n9_;have BK309:=n10_;have BK341:=n11_;have HB:=n12_;clear n0_ n1_ n2_ n3_ n4_ n5_ n6_ n7_ n8_ n9_ n10_ n11_ n12_;clear hb ho64;have hcz65_0 : w63.cell? ⟨gb309,0,none⟩ = some (.slice Ao32 t306.length co32):=(zc_ BK309.out 0).trans rfl;have hfz65_0:=zf_ BK309.out 0)|((with_reducible refine gate_builtin (b:=.append) (xs:=#[.tmp 59,.tmp 61]) rfl ?_);at_builtin;refine Kd.N_append_rows k34 (w0:=w) w.heap.size rfl (.tmp 59) (.tmp 61) 26 34 (.agg #[(.int .i64 0),(.int .i64 0),(.string ⟨#[]⟩),(.slice none 0 0)]) 56 rfl Try.underlying26 info34 rfl (by decide) (by omega) v343 y342 t306 _ _ _ (fun k_ => some k_ ≠ (.slice (some ad315) t303.length co38 : Value).ownBlock ∧ some k_ ≠ (.slice Ao36 y310.length co36 : Value).ownBlock ∧ some k_ ≠ (.slice Ao42 t316.length co42 : Value).ownBlock ∧ some k_ ≠ (.slice Ao43 y319.length co43 : Value).ownBlock ∧ some k_ ≠ (.slice Ao47 y324.length co47 : Value).ownBlock ∧ some k_ ≠ (.slice Ao50 y327.length co50 : Value).ownBlock ∧ some k_ ≠ (.slice Ao54 y332.length co54 : Value).ownBlock ∧ some k_ ≠ (.slice Ao57 y335.length co57 : Value).ownBlock ∧ k_ ≠ gb309 ∧ k_ ≠ gb341) (fun k_ => ((fun k_ => some k_ ≠ (.slice (some ad315) t303.length co38 : Value).ownBlock ∧ some k_ ≠ (.slice Ao36 y310.length co36 : Value).ownBlock ∧ some k_ ≠ (.slice Ao42 t316.length co42 : Value).ownBlock ∧ some k_ ≠ (.slice Ao43 y319.length co43 : Value).ownBlock ∧ some k_ ≠ (.slice Ao47 y324.length co47 : Value).ownBlock ∧ some k_ ≠ (.slice Ao50 y327.length co50 : Value).ownBlock ∧ some k_ ≠ (.slice Ao54 y332.length co54 : Value).ownBlock ∧ some k_ ≠ (.slice Ao57 y335.length co57 : Value).ownBlock ∧ k_ ≠ gb309 ∧ k_ ≠ gb341)) k_ ∧ some k_ ≠ (v343 : Value).ownBlock) rfl rfl ?aO ?aR (fun _ hk => hk) ?aF ?aB ?aS ?aL ?_;(case aR => exact (by skip;exact Kd.N_F (Kd.N_mono (ok':=(fun k_ => ((fun k_ => some k_ ≠ (.slice (some ad315) t303.length co38 : Value).ownBlock ∧ some k_ ≠ (.slice Ao36 y310.length co36 : Value).ownBlock ∧ some k_ ≠ (.slice Ao42 t316.length co42 : Value).ownBlock ∧ some k_ ≠ (.slice Ao43 y319.length co43 : Value).ownBlock ∧ some k_ ≠ (.slice Ao47 y324.length co47 : Value).ownBlock ∧ some k_ ≠ (.slice Ao50 y327.length co50 : Value).ownBlock ∧ some k_ ≠ (.slice Ao54 y332.length co54 : Value).ownBlock ∧ some k_ ≠ (.slice Ao57 y335.length co57 : Value).ownBlock ∧ k_ ≠ gb309 ∧ k_ ≠ gb341)) k_ ∧ some k_ ≠ (v343 : Value).ownBlock)) (HO308.out) (fun k_ hk => ⟨⟨hk.1.1.1.1.1.1.1.1.1.1,⟨hk.1.1.1.1.1.1.1.1.2,⟨hk.1.1.1.1.1.1.1.2,⟨hk.1.1.1.1.1.1.2,⟨hk.1.1.1.1.1.2,⟨hk.1.1.1.1.2,⟨hk.1.1.1.2,⟨hk.1.1.2,⟨hk.1.1.1.1.1.1.1.1.1.2,hk.1.2⟩⟩⟩⟩⟩⟩⟩⟩⟩,hk.2⟩))));(case aB => exact zt9_4);(case aF => exact (fun k_ hk => ⟨Kd.fresh' (Kd.R_lt zt9_1) k_ hk,Kd.fresh' (Kd.R_lt zt9_2) k_ hk,Kd.fresh' (Kd.N_lt zt9_8) k_ hk,Kd.fresh' (Kd.R_lt zt9_6) k_ hk,Kd.fresh' (Kd.N_lt zt9_10) k_ hk,Kd.fresh' (Kd.R_lt zt9_9) k_ hk,Kd.fresh' (Kd.N_lt zt9_13) k_ hk,Kd.fresh' (Kd.R_lt zt9_11) k_ hk,Kd.freshB (g:=gb309) (o:=.cells #[.slice Ao32 t306.length co32] 28 (0,0)) zt9_3 k_ hk,Kd.freshB (g:=gb341) (o:=.cells #[.slice Ao32 t306.length co32] 28 (0,0)) zt9_12 k_ hk⟩));(case aO => exact (by (with_reducible repeat (first|apply Kd.N_alloc|apply Kd.N_drewN|apply Kd.N_drew));exact Kd.N_mono HO344.out (fun _ hk => ⟨hk.1,⟨hk.2.2.1,⟨hk.2.2.2.1,⟨hk.2.2.2.2.1,⟨hk.2.2.2.2.2.1,⟨hk.2.2.2.2.2.2.1,⟨hk.2.2.2.2.2.2.2.1,⟨hk.2.2.2.2.2.2.2.2.1,⟨hk.2.2.2.2.2.2.2.2.2.1,hk.2.2.2.2.2.2.2.2.2.2⟩⟩⟩⟩⟩⟩⟩⟩⟩)));(case aS => exact (below_size zt9_4));(case aL => have:=LMc13.out;omega);intro v346 w66 ho hb hg hat;rw [← Ny345.out] at ho;have n0_:=zm_ (Kd.R_over' zt9_1 (Kd.N_typed zt9_19) (by decide) hg);have n1_:=zm_ (Kd.N_afterv (ok:=(fun k_ => some k_ ≠ (.slice (some ad315) t303.length co38 : Value).ownBlock ∧ some k_ ≠ (.slice Ao36 y310.length co36 : Value).ownBlock ∧ some k_ ≠ (.slice Ao42 t316.length co42 : Value).ownBlock ∧ some k_ ≠ (.slice Ao43 y319.length co43 : Value).ownBlock ∧ some k_ ≠ (.slice Ao47 y324.length co47 : Value).ownBlock ∧ some k_ ≠ (.slice Ao50 y327.length co50 : Value).ownBlock ∧ some k_ ≠ (.slice Ao54 y332.length co54 : Value).ownBlock ∧ some k_ ≠ (.slice Ao57 y335.length co57 : Value).ownBlock ∧ k_ ≠ gb309 ∧ k_ ≠ gb341)) (by (with_reducible repeat (first|apply Kd.N_alloc|apply Kd.N_drewN|apply Kd.N_drew));exact Kd.N_mono HO308.out (fun _ hk => ⟨⟨hk.1.1.1.1.1.1.1.1.1.1,⟨hk.1.1.1.1.1.1.1.1.2,⟨hk.1.1.1.1.1.1.1.2,⟨hk.1.1.1.1.1.1.2,⟨hk.1.1.1.1.1.2,⟨hk.1.1.1.1.2,⟨hk.1.1.1.2,⟨hk.1.1.2,⟨hk.1.1.1.1.1.1.1.1.1.2,hk.1.2⟩⟩⟩⟩⟩⟩⟩⟩⟩,hk.2⟩)) hg hat);have n2_:=zm_ (blk_grown (g:=gb309) (o:=.cells #[.slice Ao32 t306.length co32] 28 (0,0)) zt9_3 hg (Kd.N_ne HO344.out BK309.out (by decide)));have n3_:=zm_ (Kd.R_over' zt9_2 (Kd.N_typed zt9_19) (by decide) hg);have n4_:=zm_ (Kd.N_afterv (ok:=(fun k_ => some k_ ≠ (.slice (some ad315) t303.length co38 : Value).ownBlock ∧ some k_ ≠ (.slice Ao32 t306.length co32 : Value).ownBlock ∧ some k_ ≠ (.slice Ao36 y310.length co36 : Value).ownBlock ∧ some k_ ≠ (.slice Ao43 y319.length co43 : Value).ownBlock ∧ some k_ ≠ (.slice Ao47 y324.length co47 : Value).ownBlock ∧ some k_ ≠ (.slice Ao50 y327.length co50 : Value).ownBlock ∧ some k_ ≠ (.slice Ao54 y332.length co54 : Value).ownBlock ∧ some k_ ≠ (.slice Ao57 y335.length co57 : Value).ownBlock ∧ k_ ≠ gb309 ∧ k_ ≠ gb341)) (by (with_reducible repeat (first|apply Kd.N_alloc|apply Kd.N_drewN|apply Kd.N_drew));exact Kd.N_mono HO318.out (fun _ hk => ⟨⟨hk.1.1.1.1.1.1.1.1,⟨hk.1.1.1.1.1.1.1.2.1,⟨hk.1.1.1.1.1.1.1.2.2.1,⟨hk.1.1.1.1.1.1.2,⟨hk.1.1.1.1.1.2,⟨hk.1.1.1.1.2,⟨hk.1.1.1.2,⟨hk.1.1.2,⟨hk.1.1.1.1.1.1.1.2.2.2,hk.1.2⟩⟩⟩⟩⟩⟩⟩⟩⟩,hk.2⟩)) hg hat);have n5_:=zm_ (Kd.R_over' zt9_6 (Kd.N_typed zt9_19) (by decide) hg);have n6_:=zm_ (Kd.N_afterv (ok:=(fun k_ => some k_ ≠ (.slice (some ad315) t303.length co38 : Value).ownBlock ∧ some k_ ≠ (.slice Ao32 t306.length co32 : Value).ownBlock ∧ some k_ ≠ (.slice Ao36 y310.length co36 : Value).ownBlock ∧ some k_ ≠ (.slice Ao42 t316.length co42 : Value).ownBlock ∧ some k_ ≠ (.slice Ao43 y319.length co43 : Value).ownBlock ∧ some k_ ≠ (.slice Ao50 y327.length co50 : Value).ownBlock ∧ some k_ ≠ (.slice Ao54 y332.length co54 : Value).ownBlock ∧ some k_ ≠ (.slice Ao57 y335.length co57 : Value).ownBlock ∧ k_ ≠ gb309 ∧ k_ ≠ gb341)) (by (with_reducible repeat (first|apply Kd.N_alloc|apply Kd.N_drewN|apply Kd.N_drew));exact Kd.N_mono HO326.out (fun _ hk => ⟨⟨hk.1.1.1.1.1.1,⟨hk.1.1.1.1.1.2.1,⟨hk.1.1.1.1.1.2.2.1,⟨hk.1.1.1.1.1.2.2.2.1,⟨hk.1.1.1.1.1.2.2.2.2.1,⟨hk.1.1.1.1.2,⟨hk.1.1.1.2,⟨hk.1.1.2,⟨hk.1.1.1.1.1.2.2.2.2.2,hk.1.2⟩⟩⟩⟩⟩⟩⟩⟩⟩,hk.2⟩)) hg hat);have n7_:=zm_ (Kd.R_over' zt9_9 (Kd.N_typed zt9_19) (by decide) hg);have n8_:=zm_ (Kd.N_afterv (ok:=(fun k_ => some k_ ≠ (.slice (some ad315) t303.length co38 : Value).ownBlock ∧ some k_ ≠ (.slice Ao32 t306.length co32 : Value).ownBlock ∧ some k_ ≠ (.slice Ao36 y310.length co36 : Value).ownBlock ∧ some k_ ≠ (.slice Ao42 t316.length co42 : Value).ownBlock ∧ some k_ ≠ (.slice Ao43 y319.length co43 : Value).ownBlock ∧ some k_ ≠ (.slice Ao47 y324.length co47 : Value).ownBlock ∧ some k_ ≠ (.slice Ao50 y327.length co50 : Value).ownBlock ∧ some k_ ≠ (.slice Ao57 y335.length co57 : Value).ownBlock ∧ k_ ≠ gb309 ∧ k_ ≠ gb341)) (by (with_reducible repeat (first|apply Kd.N_alloc|apply Kd.N_drewN|apply Kd.N_drew));exact Kd.N_mono HO334.out (fun _ hk => ⟨⟨hk.1.1.1.1,⟨hk.1.1.1.2.1,⟨hk.1.1.1.2.2.1,⟨hk.1.1.1.2.2.2.1,⟨hk.1.1.1.2.2.2.2.1,⟨hk.1.1.1.2.2.2.2.2.1,⟨hk.1.1.1.2.2.2.2.2.2.1,⟨hk.1.1.2,⟨hk.1.1.1.2.2.2.2.2.2.2,hk.1.2⟩⟩⟩⟩⟩⟩⟩⟩⟩,hk.2⟩)) hg hat);have n9_:=zm_ (Kd.R_over' zt9_11 (Kd.N_typed zt9_19) (by decide) hg);have n10_:=zm_ (blk_grown (g:=gb341) (o:=.cells #[.slice Ao32 t306.length co32] 28 (0,0)) zt9_12 hg (Kd.N_ne HO344.out BK341.out (by decide)));have n11_:=zm_ (hb);have n12_:=zm_ (ho);clear HO305;clear HO308;clear BK309;clear HO312;clear HO318;clear HO321;clear HO326;clear HO329;clear HO334;clear HO337;clear BK341;clear HB;clear HO344;have HO305:=n0_;have HO308:=n1_;have BK309:=n2_;have HO312:=n3_;have HO318:=n4_;have HO321:=n5_;have HO326:=n6_;have HO329:=n7_;have HO334:=n8_;have HO337:=n9_;have BK341:=n10_;have HB:=n11_;have HO347:=n12_;clear n0_ n1_ n2_ n3_ n4_ n5_ n6_ n7_ n8_ n9_ n10_ n11_ n12_;clear ho hb hg hat)|((with_reducible refine gate_dst (N:=64) rfl ?_);refine Kd.R_lit (Kd.int .i64) _ 3 ?hg (N:=64) ?hd (xs:=([2,3] : List Int)) (inner:=[.int .i64 2,.int .i64 3]) (ok:=fun _ => True) (okp:=fun _ => True) ?hr ?hp (fun _ hk => hk) trivial (Below.refl _ _) (Nat.le_refl _) (by simp) ?_;(case hd => rfl);(case hg => rfl);(case hr => first|(go_simp;done)|(go_simp;rfl));(case hp => exact (Reps.one (show Kd.M (Kd.int .i64) _ _ _ 2 [.int .i64 2] from rfl) (Reps.one (show Kd.M (Kd.int .i64) _ _ _ 3 [.int .i64 3] from rfl) (Reps.none _ _))));intro v349 w67 ho68 hb hg_ hnew_;clear hg_ hnew_;(first|rw [← Ny348.out] at ho68|(simp only [Int.reduceToNat] at ho68;rw [← Ny348.out] at ho68));have n0_:=zm_ (Kd.R_elder' zt9_1 (Kd.R_base ho68) hb);have n1_:=zm_ (Kd.N_elder' zt9_7 (Kd.R_base ho68) hb);have n2_:=zm_ (Kd.R_below zt9_2 hb);have n3_:=zm_ (Kd.N_elder' zt9_8 (Kd.R_base ho68) hb);have n4_:=zm_ (Kd.R_below zt9_6 hb);have n5_:=zm_ (Kd.N_elder' zt9_10 (Kd.R_base ho68) hb);have n6_:=zm_ (Kd.R_below zt9_9 hb);have n7_:=zm_ (Kd.N_elder' zt9_13 (Kd.R_base ho68) hb);have n8_:=zm_ (Kd.R_below zt9_11 hb);have n9_:=zm_ (Kd.N_elder' zt9_14 (Kd.R_base ho68) hb);have n10_:=zm_ (Kd.R_lower (Kd.R_new' ho68 (Kd.R_lt zt9_1)) (below_size zt9_4));have n11_:=zm_ (blk_below (g:=gb309) (o:=.cells #[.slice Ao32 t306.length co32] 28 (0,0)) zt9_3 hb);have n12_:=zm_ (blk_below (g:=gb341) (o:=.cells #[.slice Ao32 t306.length co32] 28 (0,0)) zt9_12 hb);have n13_:=zm_ (below_step zt9_4 hb);clear HO305;clear HO308;clear HO312;clear HO318;clear HO321;clear HO326;clear HO329;clear HO334;clear HO337;clear HO347;clear BK309;clear BK341;clear HB;have HO305:=n0_;have HO308:=n1_;have HO312:=n2_;have HO318:=n3_;have HO321:=n4_;have HO326:=n5_;have HO329:=n6_;have HO334:=n7_;have HO337:=n8_;have HO347:=n9_;have HO350:=n10_;have BK309:=n11_;have BK341:=n12_;have HB:=n13_;clear n0_ n1_ n2_ n3_ n4_ n5_ n6_ n7_ n8_ n9_ n10_ n11_ n12_ n13_;clear hb ho68;obtain ⟨Ao69,co69,eo69⟩:=Kd.R_slice HO350.out;subst eo69)|((with_reducible refine gate_dst (N:=66) rfl ?_);refine Kd.N_lit k34 _ 34 ?hg (N':=66) ?hd (xs:=([(⟨1,99,(⟨#[]⟩ : ByteArray),([] : List Int)⟩ : S34),(⟨6,0,(⟨#[]⟩ : ByteArray),y348⟩ : S34)] : List (S34))) (inner:=[.int .i64 1,.int .i64 99,.string (⟨#[]⟩ : ByteArray),.slice none 0 0,.int .i64 6,.int .i64 0,.string (⟨#[]⟩ : ByteArray),.slice Ao69 y348.length co69]) (ok:=(fun k_ => some k_ ≠ (.slice (some ad315) t303.length co38 : Value).ownBlock ∧ some k_ ≠ (.slice Ao32 t306.length co32 : Value).ownBlock ∧ some k_ ≠ (.slice Ao36 y310.length co36 : Value).ownBlock ∧ some k_ ≠ (.slice Ao42 t316.length co42 : Value).ownBlock ∧ some k_ ≠ (.slice Ao43 y319.length co43 : Value).ownBlock ∧ some k_ ≠ (.slice Ao47 y324.length co47 : Value).ownBlock ∧ some k_ ≠ (.slice Ao50 y327.length co50 : Value).ownBlock ∧ some k_ ≠ (.slice Ao54 y332.length co54 : Value).ownBlock ∧ some k_ ≠ (.slice Ao57 y335.length co57 : Value).ownBlock ∧ some k_ ≠ (v346 : Value).ownBlock ∧ k_ ≠ gb309 ∧ k_ ≠ gb341)) (okp:=(fun k_ => some k_ ≠ (.slice (some ad315) t303.length co38 : Value).ownBlock ∧ some k_ ≠ (.slice Ao32 t306.length co32 : Value).ownBlock ∧ some k_ ≠ (.slice Ao36 y310.length co36 : Value).ownBlock ∧ some k_ ≠ (.slice Ao42 t316.length co42 : Value).ownBlock ∧ some k_ ≠ (.slice Ao43 y319.length co43 : Value).ownBlock ∧ some k_ ≠ (.slice Ao47 y324.length co47 : Value).ownBlock ∧ some k_ ≠ (.slice Ao50 y327.length co50 : Value).ownBlock ∧ some k_ ≠ (.slice Ao54 y332.length co54 : Value).ownBlock ∧ some k_ ≠ (.slice Ao57 y335.length co57 : Value).ownBlock ∧ some k_ ≠ (v346 : Value).ownBlock ∧ k_ ≠ gb309 ∧ k_ ≠ gb341)) ?hr ?hp (fun _ hk => hk) ((show ∀ k_,(_ : World).heap.size ≤ k_ → (fun k_ => some k_ ≠ (.slice (some ad315) t303.length co38 : Value).ownBlock ∧ some k_ ≠ (.slice Ao32 t306.length co32 : Value).ownBlock ∧ some k_ ≠ (.slice Ao36 y310.length co36 : Value).ownBlock ∧ some k_ ≠ (.slice Ao42 t316.length co42 : Value).ownBlock ∧ some k_ ≠ (.slice Ao43 y319.length co43 : Value).ownBlock ∧ some k_ ≠ (.slice Ao47 y324.length co47 : Value).ownBlock ∧ some k_ ≠ (.slice Ao50 y327.length co50 : Value).ownBlock ∧ some k_ ≠ (.slice Ao54 y332.length co54 : Value).ownBlock ∧ some k_ ≠ (.slice Ao57 y335.length co57 : Value).ownBlock ∧ some k_ ≠ (v346 : Value).ownBlock ∧ k_ ≠ gb309 ∧ k_ ≠ gb341) k_ from fun k_ hk => ⟨Kd.fresh' (Kd.R_lt zt9_1) k_ hk,Kd.fresh' (Kd.N_lt zt9_7) k_ hk,Kd.fresh' (Kd.R_lt zt9_2) k_ hk,Kd.fresh' (Kd.N_lt zt9_8) k_ hk,Kd.fresh' (Kd.R_lt zt9_6) k_ hk,Kd.fresh' (Kd.N_lt zt9_10) k_ hk,Kd.fresh' (Kd.R_lt zt9_9) k_ hk,Kd.fresh' (Kd.N_lt zt9_13) k_ hk,Kd.fresh' (Kd.R_lt zt9_11) k_ hk,Kd.fresh' (Kd.N_lt zt9_14) k_ hk,Kd.freshB (g:=gb309) (o:=.cells #[.slice Ao32 t306.length co32] 28 (0,0)) zt9_3 k_ hk,Kd.freshB (g:=gb341) (o:=.cells #[.slice Ao32 t306.length co32] 28 (0,0)) zt9_12 k_ hk⟩) _ (Nat.le_refl _)) (Below.refl _ _) (Nat.le_refl _) (by simp) ?_;(case hd => rfl);(case hg => rfl);(case hr => first|(go_simp;done)|(go_simp;rfl));(case hp => exact (Reps.c4 (show Kd.FK k34 _ _ (⟨1,99,(⟨#[]⟩ : ByteArray),([] : List Int)⟩ : S34) [.int .i64 1,.int .i64 99,.string (⟨#[]⟩ : ByteArray),.slice none 0 0] from (k34_mkF _ _ (⟨1,99,(⟨#[]⟩ : ByteArray),([] : List Int)⟩ : S34) (Nat.le_refl _) (Kd.F_nil _ _ _))) (Reps.c4 (show Kd.FK k34 _ _ (⟨6,0,(⟨#[]⟩ : ByteArray),y348⟩ : S34) [.int .i64 6,.int .i64 0,.string (⟨#[]⟩ : ByteArray),.slice Ao69 y348.length co69] from (k34_mkF _ _ (⟨6,0,(⟨#[]⟩ : ByteArray),y348⟩ : S34) (Kd.R_reads' (Kd.R_mono (ok':=(fun k_ => some k_ ≠ (.slice (some ad315) t303.length co38 : Value).ownBlock ∧ some k_ ≠ (.slice Ao32 t306.length co32 : Value).ownBlock ∧ some k_ ≠ (.slice Ao36 y310.length co36 : Value).ownBlock ∧ some k_ ≠ (.slice Ao42 t316.length co42 : Value).ownBlock ∧ some k_ ≠ (.slice Ao43 y319.length co43 : Value).ownBlock ∧ some k_ ≠ (.slice Ao47 y324.length co47 : Value).ownBlock ∧ some k_ ≠ (.slice Ao50 y327.length co50 : Value).ownBlock ∧ some k_ ≠ (.slice Ao54 y332.length co54 : Value).ownBlock ∧ some k_ ≠ (.slice Ao57 y335.length co57 : Value).ownBlock ∧ some k_ ≠ (v346 : Value).ownBlock ∧ k_ ≠ gb309 ∧ k_ ≠ gb341)) (Kd.R_types (Kd.R_types (Kd.R_apart' (Kd.R_apart' (Kd.R_apart' (Kd.R_apart' (Kd.R_apart' (Kd.R_apart' (Kd.R_apart' (Kd.R_apart' (Kd.R_apart' (HO350.out) (Kd.N_typed HO308.out) (by decide)) (Kd.R_typed HO312.out) (by decide)) (Kd.N_typed HO318.out) (by decide)) (Kd.R_typed HO321.out) (by decide)) (Kd.N_typed HO326.out) (by decide)) (Kd.R_typed HO329.out) (by decide)) (Kd.N_typed HO334.out) (by decide)) (Kd.R_typed HO337.out) (by decide)) (Kd.N_typed HO347.out) (by decide)) BK309.out (by decide)) BK341.out (by decide)) (fun k_ hk => ⟨hk.1.1.1.1.1.1.1.1.1.1.1.2,⟨hk.1.1.1.1.1.1.1.1.1.1.2,⟨hk.1.1.1.1.1.1.1.1.1.2,⟨hk.1.1.1.1.1.1.1.1.2,⟨hk.1.1.1.1.1.1.1.2,⟨hk.1.1.1.1.1.1.2,⟨hk.1.1.1.1.1.2,⟨hk.1.1.1.1.2,⟨hk.1.1.1.2,⟨hk.1.1.2,⟨hk.1.2,hk.2⟩⟩⟩⟩⟩⟩⟩⟩⟩⟩⟩))).2.1 (Kd.R_F (Kd.R_mono (ok':=(fun k_ => some k_ ≠ (.slice (some ad315) t303.length co38 : Value).ownBlock ∧ some k_ ≠ (.slice Ao32 t306.length co32 : Value).ownBlock ∧ some k_ ≠ (.slice Ao36 y310.length co36 : Value).ownBlock ∧ some k_ ≠ (.slice Ao42 t316.length co42 : Value).ownBlock ∧ some k_ ≠ (.slice Ao43 y319.length co43 : Value).ownBlock ∧ some k_ ≠ (.slice Ao47 y324.length co47 : Value).ownBlock ∧ some k_ ≠ (.slice Ao50 y327.length co50 : Value).ownBlock ∧ some k_ ≠ (.slice Ao54 y332.length co54 : Value).ownBlock ∧ some k_ ≠ (.slice Ao57 y335.length co57 : Value).ownBlock ∧ some k_ ≠ (v346 : Value).ownBlock ∧ k_ ≠ gb309 ∧ k_ ≠ gb341)) (Kd.R_types (Kd.R_types (Kd.R_apart' (Kd.R_apart' (Kd.R_apart' (Kd.R_apart' (Kd.R_apart' (Kd.R_apart' (Kd.R_apart' (Kd.R_apart' (Kd.R_apart' (HO350.out) (Kd.N_typed HO308.out) (by decide)) (Kd.R_typed HO312.out) (by decide)) (Kd.N_typed HO318.out) (by decide)) (Kd.R_typed HO321.out) (by decide)) (Kd.N_typed HO326.out) (by decide)) (Kd.R_typed HO329.out) (by decide)) (Kd.N_typed HO334.out) (by decide)) (Kd.R_typed HO337.out) (by decide)) (Kd.N_typed HO347.out) (by decide)) BK309.out (by decide)) BK341.out (by decide)) (fun k_ hk => ⟨hk.1.1.1.1.1.1.1.1.1.1.1.2,⟨hk.1.1.1.1.1.1.1.1.1.1.2,⟨hk.1.1.1.1.1.1.1.1.1.2,⟨hk.1.1.1.1.1.1.1.1.2,⟨hk.1.1.1.1.1.1.1.2,⟨hk.1.1.1.1.1.1.2,⟨hk.1.1.1.1.1.2,⟨hk.1.1.1.1.2,⟨hk.1.1.1.2,⟨hk.1.1.2,⟨hk.1.2,hk.2⟩⟩⟩⟩⟩⟩⟩⟩⟩⟩⟩))))) (Reps.none _ _))));intro v352 w70 ho71 hb hg_ hnew_;clear hg_ hnew_;(first|rw [← Ny351.out] at ho71|(simp only [Int.reduceToNat] at ho71;rw [← Ny351.out] at ho71));have n0_:=zm_ (Kd.R_below zt9_1 hb);have n1_:=zm_ (Kd.N_elder' zt9_7 (Kd.N_base ho71) hb);have n2_:=zm_ (Kd.R_below zt9_2 hb);have n3_:=zm_ (Kd.N_elder' zt9_8 (Kd.N_base ho71) hb);have n4_:=zm_ (Kd.R_below zt9_6 hb);have n5_:=zm_ (Kd.N_elder' zt9_10 (Kd.N_base ho71) hb);have n6_:=zm_ (Kd.R_below zt9_9 hb);have n7_:=zm_ (Kd.N_elder' zt9_13 (Kd.N_base ho71) hb);have n8_:=zm_ (Kd.R_below zt9_11 hb);have n9_:=zm_ (Kd.N_elder' zt9_14 (Kd.N_base ho71) hb);have n10_:=zm_ (Kd.N_lower ho71 (below_size zt9_4));have n11_:=zm_ (blk_below (g:=gb309) (o:=.cells #[.slice Ao32 t306.length co32] 28 (0,0)) zt9_3 hb);have n12_:=zm_ (blk_below (g:=gb341) (o:=.cells #[.slice Ao32 t306.length co32] 28 (0,0)) zt9_12 hb);have n13_:=zm_ (below_step zt9_4 hb);clear HO305;clear HO308;clear HO312;clear HO318;clear HO321;clear HO326;clear HO329;clear HO334;clear HO337;clear HO347;clear BK309;clear BK341;clear HB;clear HO350;have HO305:=n0_;have HO308:=n1_;have HO312:=n2_;have HO318:=n3_;have HO321:=n4_;have HO326:=n5_;have HO329:=n6_;have HO334:=n7_;have HO337:=n8_;have HO347:=n9_;have HO353:=n10_;have BK309:=n11_;have BK341:=n12_;have HB:=n13_;clear n0_ n1_ n2_ n3_ n4_ n5_ n6_ n7_ n8_ n9_ n10_ n11_ n12_ n13_;clear hb ho71;obtain ⟨Ao73,co73,eo73⟩:=Kd.N_slice HO353.out;subst eo73)|((with_reducible refine gate_builtin (b:=.append) (xs:=#[.tmp 62,.tmp 66]) rfl ?_);at_builtin;refine Kd.N_append_rows k34 (w0:=w) w.heap.size rfl (.tmp 62) (.tmp 66) 26 34 (.agg #[(.int .i64 0),(.int .i64 0),(.string ⟨#[]⟩),(.slice none 0 0)]) 56 rfl Try.underlying26 info34 rfl (by decide) (by omega) v346 y345 y351 _ _ _ (fun k_ => some k_ ≠ (.slice (some ad315) t303.length co38 : Value).ownBlock ∧ some k_ ≠ (.slice Ao36 y310.length co36 : Value).ownBlock ∧ some k_ ≠ (.slice Ao42 t316.length co42 : Value).ownBlock ∧ some k_ ≠ (.slice Ao43 y319.length co43 : Value).ownBlock ∧ some k_ ≠ (.slice Ao47 y324.length co47 : Value).ownBlock ∧ some k_ ≠ (.slice Ao50 y327.length co50 : Value).ownBlock ∧ some k_ ≠ (.slice Ao54 y332.length co54 : Value).ownBlock ∧ some k_ ≠ (.slice Ao57 y335.length co57 : Value).ownBlock ∧ k_ ≠ gb309 ∧ k_ ≠ gb341) (fun k_ => ((fun k_ => some k_ ≠ (.slice (some ad315) t303.length co38 : Value).ownBlock ∧ some k_ ≠ (.slice Ao36 y310.length co36 : Value).ownBlock ∧ some k_ ≠ (.slice Ao42 t316.length co42 : Value).ownBlock ∧ some k_ ≠ (.slice Ao43 y319.length co43 : Value).ownBlock ∧ some k_ ≠ (.slice Ao47 y324.length co47 : Value).ownBlock ∧ some k_ ≠ (.slice Ao50 y327.length co50 : Value).ownBlock ∧ some k_ ≠ (.slice Ao54 y332.length co54 : Value).ownBlock ∧ some k_ ≠ (.slice Ao57 y335.length co57 : Value).ownBlock ∧ k_ ≠ gb309 ∧ k_ ≠ gb341)) k_ ∧ some k_ ≠ (v346 : Value).ownBlock) rfl rfl ?aO ?aR (fun _ hk => hk) ?aF ?aB ?aS ?aL ?_;(case aR => exact (by skip;exact Kd.N_F (Kd.N_mono (ok':=(fun k_ => ((fun k_ => some k_ ≠ (.slice (some ad315) t303.length co38 : Value).ownBlock ∧ some k_ ≠ (.slice Ao36 y310.length co36 : Value).ownBlock ∧ some k_ ≠ (.slice Ao42 t316.length co42 : Value).ownBlock ∧ some k_ ≠ (.slice Ao43 y319.length co43 : Value).ownBlock ∧ some k_ ≠ (.slice Ao47 y324.length co47 : Value).ownBlock ∧ some k_ ≠ (.slice Ao50 y327.length co50 : Value).ownBlock ∧ some k_ ≠ (.slice Ao54 y332.length co54 : Value).ownBlock ∧ some k_ ≠ (.slice Ao57 y335.length co57 : Value).ownBlock ∧ k_ ≠ gb309 ∧ k_ ≠ gb341)) k_ ∧ some k_ ≠ (v346 : Value).ownBlock)) (HO353.out) (fun k_ hk => ⟨⟨hk.1,⟨hk.2.2.1,⟨hk.2.2.2.1,⟨hk.2.2.2.2.1,⟨hk.2.2.2.2.2.1,⟨hk.2.2.2.2.2.2.1,⟨hk.2.2.2.2.2.2.2.1,⟨hk.2.2.2.2.2.2.2.2.1,⟨hk.2.2.2.2.2.2.2.2.2.2.1,hk.2.2.2.2.2.2.2.2.2.2.2⟩⟩⟩⟩⟩⟩⟩⟩⟩,hk.2.2.2.2.2.2.2.2.2.1⟩))));(case aB => exact zt9_4);(case aF => exact (fun k_ hk => ⟨Kd.fresh' (Kd.R_lt zt9_1) k_ hk,Kd.fresh' (Kd.R_lt zt9_2) k_ hk,Kd.fresh' (Kd.N_lt zt9_8) k_ hk,Kd.fresh' (Kd.R_lt zt9_6) k_ hk,Kd.fresh' (Kd.N_lt zt9_10) k_ hk,Kd.fresh' (Kd.R_lt zt9_9) k_ hk,Kd.fresh' (Kd.N_lt zt9_13) k_ hk,Kd.fresh' (Kd.R_lt zt9_11) k_ hk,Kd.freshB (g:=gb309) (o:=.cells #[.slice Ao32 t306.length co32] 28 (0,0)) zt9_3 k_ hk,Kd.freshB (g:=gb341) (o:=.cells #[.slice Ao32 t306.length co32] 28 (0,0)) zt9_12 k_ hk⟩));(case aO => exact (by (with_reducible repeat (first|apply Kd.N_alloc|apply Kd.N_drewN|apply Kd.N_drew));exact Kd.N_mono HO347.out (fun _ hk => ⟨hk.1.1.1,⟨hk.1.1.2.1,⟨hk.1.1.2.2.1,⟨hk.1.1.2.2.2.1,⟨hk.1.1.2.2.2.2.1,⟨hk.1.1.2.2.2.2.2.1,⟨hk.1.1.2.2.2.2.2.2.1,⟨hk.1.1.2.2.2.2.2.2.2.1,⟨hk.1.1.2.2.2.2.2.2.2.2.1,hk.1.1.2.2.2.2.2.2.2.2.2⟩⟩⟩⟩⟩⟩⟩⟩⟩)));(case aS => exact (below_size zt9_4));(case aL => have:=LMc14.out;omega);intro v355 w72 ho hb hg hat;rw [← Ny354.out] at ho;have n0_:=zm_ (Kd.R_over' zt9_1 (Kd.N_typed zt9_14) (by decide) hg);have n1_:=zm_ (Kd.N_afterv (ok:=(fun k_ => some k_ ≠ (.slice (some ad315) t303.length co38 : Value).ownBlock ∧ some k_ ≠ (.slice Ao36 y310.length co36 : Value).ownBlock ∧ some k_ ≠ (.slice Ao42 t316.length co42 : Value).ownBlock ∧ some k_ ≠ (.slice Ao43 y319.length co43 : Value).ownBlock ∧ some k_ ≠ (.slice Ao47 y324.length co47 : Value).ownBlock ∧ some k_ ≠ (.slice Ao50 y327.length co50 : Value).ownBlock ∧ some k_ ≠ (.slice Ao54 y332.length co54 : Value).ownBlock ∧ some k_ ≠ (.slice Ao57 y335.length co57 : Value).ownBlock ∧ some k_ ≠ (.slice Ao73 y351.length co73 : Value).ownBlock ∧ k_ ≠ gb309 ∧ k_ ≠ gb341)) (by (with_reducible repeat (first|apply Kd.N_alloc|apply Kd.N_drewN|apply Kd.N_drew));exact Kd.N_mono HO308.out (fun _ hk => ⟨⟨hk.1.1.1.1,⟨hk.1.1.1.2.1,⟨hk.1.1.1.2.2.1,⟨hk.1.1.1.2.2.2.1,⟨hk.1.1.1.2.2.2.2.1,⟨hk.1.1.1.2.2.2.2.2.1,⟨hk.1.1.1.2.2.2.2.2.2.1,⟨hk.1.1.1.2.2.2.2.2.2.2.1,⟨hk.2,⟨hk.1.1.1.2.2.2.2.2.2.2.2.1,hk.1.1.1.2.2.2.2.2.2.2.2.2⟩⟩⟩⟩⟩⟩⟩⟩⟩⟩,hk.1.1.2⟩)) hg hat);have n2_:=zm_ (blk_grown (g:=gb309) (o:=.cells #[.slice Ao32 t306.length co32] 28 (0,0)) zt9_3 hg (Kd.N_ne HO347.out BK309.out (by decide)));have n3_:=zm_ (Kd.R_over' zt9_2 (Kd.N_typed zt9_14) (by decide) hg);have n4_:=zm_ (Kd.N_afterv (ok:=(fun k_ => some k_ ≠ (.slice (some ad315) t303.length co38 : Value).ownBlock ∧ some k_ ≠ (.slice Ao32 t306.length co32 : Value).ownBlock ∧ some k_ ≠ (.slice Ao36 y310.length co36 : Value).ownBlock ∧ some k_ ≠ (.slice Ao43 y319.length co43 : Value).ownBlock ∧ some k_ ≠ (.slice Ao47 y324.length co47 : Value).ownBlock ∧ some k_ ≠ (.slice Ao50 y327.length co50 : Value).ownBlock ∧ some k_ ≠ (.slice Ao54 y332.length co54 : Value).ownBlock ∧ some k_ ≠ (.slice Ao57 y335.length co57 : Value).ownBlock ∧ some k_ ≠ (.slice Ao73 y351.length co73 : Value).ownBlock ∧ k_ ≠ gb309 ∧ k_ ≠ gb341)) (by (with_reducible repeat (first|apply Kd.N_alloc|apply Kd.N_drewN|apply Kd.N_drew));exact Kd.N_mono HO318.out (fun _ hk => ⟨⟨hk.1.1.1.1,⟨hk.1.1.1.2.1,⟨hk.1.1.1.2.2.1,⟨hk.1.1.1.2.2.2.1,⟨hk.1.1.1.2.2.2.2.1,⟨hk.1.1.1.2.2.2.2.2.1,⟨hk.1.1.1.2.2.2.2.2.2.1,⟨hk.1.1.1.2.2.2.2.2.2.2.1,⟨hk.2,⟨hk.1.1.1.2.2.2.2.2.2.2.2.1,hk.1.1.1.2.2.2.2.2.2.2.2.2⟩⟩⟩⟩⟩⟩⟩⟩⟩⟩,hk.1.1.2⟩)) hg hat);have n5_:=zm_ (Kd.R_over' zt9_6 (Kd.N_typed zt9_14) (by decide) hg);have n6_:=zm_ (Kd.N_afterv (ok:=(fun k_ => some k_ ≠ (.slice (some ad315) t303.length co38 : Value).ownBlock ∧ some k_ ≠ (.slice Ao32 t306.length co32 : Value).ownBlock ∧ some k_ ≠ (.slice Ao36 y310.length co36 : Value).ownBlock ∧ some k_ ≠ (.slice Ao42 t316.length co42 : Value).ownBlock ∧ some k_ ≠ (.slice Ao43 y319.length co43 : Value).ownBlock ∧ some k_ ≠ (.slice Ao50 y327.length co50 : Value).ownBlock ∧ some k_ ≠ (.slice Ao54 y332.length co54 : Value).ownBlock ∧ some k_ ≠ (.slice Ao57 y335.length co57 : Value).ownBlock ∧ some k_ ≠ (.slice Ao73 y351.length co73 : Value).ownBlock ∧ k_ ≠ gb309 ∧ k_ ≠ gb341)) (by (with_reducible repeat (first|apply Kd.N_alloc|apply Kd.N_drewN|apply Kd.N_drew));exact Kd.N_mono HO326.out (fun _ hk => ⟨⟨hk.1.1.1.1,⟨hk.1.1.1.2.1,⟨hk.1.1.1.2.2.1,⟨hk.1.1.1.2.2.2.1,⟨hk.1.1.1.2.2.2.2.1,⟨hk.1.1.1.2.2.2.2.2.1,⟨hk.1.1.1.2.2.2.2.2.2.1,⟨hk.1.1.1.2.2.2.2.2.2.2.1,⟨hk.2,⟨hk.1.1.1.2.2.2.2.2.2.2.2.1,hk.1.1.1.2.2.2.2.2.2.2.2.2⟩⟩⟩⟩⟩⟩⟩⟩⟩⟩,hk.1.1.2⟩)) hg hat);have n7_:=zm_ (Kd.R_over' zt9_9 (Kd.N_typed zt9_14) (by decide) hg);have n8_:=zm_ (Kd.N_afterv (ok:=(fun k_ => some k_ ≠ (.slice (some ad315) t303.length co38 : Value).ownBlock ∧ some k_ ≠ (.slice Ao32 t306.length co32 : Value).ownBlock ∧ some k_ ≠ (.slice Ao36 y310.length co36 : Value).ownBlock ∧ some k_ ≠ (.slice Ao42 t316.length co42 : Value).ownBlock ∧ some k_ ≠ (.slice Ao43 y319.length co43 : Value).ownBlock ∧ some k_ ≠ (.slice Ao47 y324.length co47 : Value).ownBlock ∧ some k_ ≠ (.slice Ao50 y327.length co50 : Value).ownBlock ∧ some k_ ≠ (.slice Ao57 y335.length co57 : Value).ownBlock ∧ some k_ ≠ (.slice Ao73 y351.length co73 : Value).ownBlock ∧ k_ ≠ gb309 ∧ k_ ≠ gb341)) (by (with_reducible repeat (first|apply Kd.N_alloc|apply Kd.N_drewN|apply Kd.N_drew));exact Kd.N_mono HO334.out (fun _ hk => ⟨⟨hk.1.1.1.1,⟨hk.1.1.1.2.1,⟨hk.1.1.1.2.2.1,⟨hk.1.1.1.2.2.2.1,⟨hk.1.1.1.2.2.2.2.1,⟨hk.1.1.1.2.2.2.2.2.1,⟨hk.1.1.1.2.2.2.2.2.2.1,⟨hk.1.1.1.2.2.2.2.2.2.2.1,⟨hk.2,⟨hk.1.1.1.2.2.2.2.2.2.2.2.1,hk.1.1.1.2.2.2.2.2.2.2.2.2⟩⟩⟩⟩⟩⟩⟩⟩⟩⟩,hk.1.1.2⟩)) hg hat);have n9_:=zm_ (Kd.R_over' zt9_11 (Kd.N_typed zt9_14) (by decide) hg);have n10_:=zm_ (blk_grown (g:=gb341) (o:=.cells #[.slice Ao32 t306.length co32] 28 (0,0)) zt9_12 hg (Kd.N_ne HO347.out BK341.out (by decide)));have n11_:=zm_ (Kd.N_afterv (ok:=(fun k_ => some k_ ≠ (.slice (some ad315) t303.length co38 : Value).ownBlock ∧ some k_ ≠ (.slice Ao32 t306.length co32 : Value).ownBlock ∧ some k_ ≠ (.slice Ao36 y310.length co36 : Value).ownBlock ∧ some k_ ≠ (.slice Ao42 t316.length co42 : Value).ownBlock ∧ some k_ ≠ (.slice Ao43 y319.length co43 : Value).ownBlock ∧ some k_ ≠ (.slice Ao47 y324.length co47 : Value).ownBlock ∧ some k_ ≠ (.slice Ao50 y327.length co50 : Value).ownBlock ∧ some k_ ≠ (.slice Ao54 y332.length co54 : Value).ownBlock ∧ some k_ ≠ (.slice Ao57 y335.length co57 : Value).ownBlock ∧ k_ ≠ gb309 ∧ k_ ≠ gb341)) (by (with_reducible repeat (first|apply Kd.N_alloc|apply Kd.N_drewN|apply Kd.N_drew));exact Kd.N_mono HO353.out (fun _ hk => ⟨⟨hk.1,⟨hk.2.1,⟨hk.2.2.1,⟨hk.2.2.2.1,⟨hk.2.2.2.2.1,⟨hk.2.2.2.2.2.1,⟨hk.2.2.2.2.2.2.1,⟨hk.2.2.2.2.2.2.2.1,⟨hk.2.2.2.2.2.2.2.2.1,⟨hk.2.2.2.2.2.2.2.2.2.2.1,hk.2.2.2.2.2.2.2.2.2.2.2⟩⟩⟩⟩⟩⟩⟩⟩⟩⟩,hk.2.2.2.2.2.2.2.2.2.1⟩)) hg hat);have n12_:=zm_ (hb);have n13_:=zm_ (ho);clear HO305;clear HO308;clear BK309;clear HO312;clear HO318;clear HO321;clear HO326;clear HO329;clear HO334;clear HO337;clear BK341;clear HO353;clear HB;clear HO347;have HO305:=n0_;have HO308:=n1_;have BK309:=n2_;have HO312:=n3_;have HO318:=n4_;have HO321:=n5_;have HO326:=n6_;have HO329:=n7_;have HO334:=n8_;have HO337:=n9_;have BK341:=n10_;have HO353:=n11_;have HB:=n12_;have HO356:=n13_;clear n0_ n1_ n2_ n3_ n4_ n5_ n6_ n7_ n8_ n9_ n10_ n11_ n12_ n13_;clear ho hb hg hat;obtain ⟨Ao74,co74,eo74⟩:=Kd.N_slice HO356.out;subst eo74;have hcz75_0 : w72.cell? ⟨gb341,0,none⟩ = some (.slice Ao32 t306.length co32):=(zc_ BK341.out 0).trans rfl;have hfz75_0:=zf_ BK341.out 0)|((with_reducible refine gate_dst (N:=71) rfl ?_);refine Kd.R_lit k87 _ 87 ?hg (N:=71) ?hd (xs:=([] : List (S87))) (inner:=[]) (ok:=fun _ => True) (okp:=fun _ => True) ?hr ?hp (fun _ hk => hk) trivial (Below.refl _ _) (Nat.le_refl _) (by simp) ?_;(case hd => rfl);(case hg => rfl);(case hr => first|(go_simp;done)|(go_simp;rfl));(case hp => exact (Reps.none _ _));intro v358 w76 ho77 hb hg_ hnew_;clear hg_ hnew_;(first|rw [← Ny357.out] at ho77|(simp only [Int.reduceToNat] at ho77;rw [← Ny357.out] at ho77));have n0_:=zm_ (Kd.R_below (by (with_reducible repeat (first|apply Kd.R_alloc|apply Kd.R_drewN|apply Kd.R_drew));exact (Kd.R_mono (Kd.R_far (p:=⟨gb341,0,none⟩) (Kd.R_types HO305.out BK341.out (by decide)) (fun _ hk => hk.2) (.slice Ao74 y354.length co74)) (fun _ h_ => h_.1))) hb);have n1_:=zm_ (Kd.N_elder' (by (with_reducible repeat (first|apply Kd.N_alloc|apply Kd.N_drewN|apply Kd.N_drew));exact (Kd.N_mono (Kd.N_far (p:=⟨gb341,0,none⟩) (Kd.N_mono HO308.out (fun k_ hk => (⟨hk,hk.1.2.2.2.2.2.2.2.2.2.2⟩ : _ ∧ k_ ≠ gb341))) (fun _ hk => hk.2) (.slice Ao74 y354.length co74)) (fun _ h_ => h_.1))) (Kd.R_base ho77) hb);have n2_:=zm_ (Kd.R_elder' zt9_29 (Kd.R_base ho77) hb);have n3_:=zm_ (Kd.N_elder' (by (with_reducible repeat (first|apply Kd.N_alloc|apply Kd.N_drewN|apply Kd.N_drew));exact (Kd.N_mono (Kd.N_far (p:=⟨gb341,0,none⟩) (Kd.N_mono HO318.out (fun k_ hk => (⟨hk,hk.1.2.2.2.2.2.2.2.2.2.2⟩ : _ ∧ k_ ≠ gb341))) (fun _ hk => hk.2) (.slice Ao74 y354.length co74)) (fun _ h_ => h_.1))) (Kd.R_base ho77) hb);have n4_:=zm_ (Kd.R_elder' zt9_30 (Kd.R_base ho77) hb);have n5_:=zm_ (Kd.N_elder' (by (with_reducible repeat (first|apply Kd.N_alloc|apply Kd.N_drewN|apply Kd.N_drew));exact (Kd.N_mono (Kd.N_far (p:=⟨gb341,0,none⟩) (Kd.N_mono HO326.out (fun k_ hk => (⟨hk,hk.1.2.2.2.2.2.2.2.2.2.2⟩ : _ ∧ k_ ≠ gb341))) (fun _ hk => hk.2) (.slice Ao74 y354.length co74)) (fun _ h_ => h_.1))) (Kd.R_base ho77) hb);have n6_:=zm_ (Kd.R_elder' zt9_31 (Kd.R_base ho77) hb);have n7_:=zm_ (Kd.N_elder' (by (with_reducible repeat (first|apply Kd.N_alloc|apply Kd.N_drewN|apply Kd.N_drew));exact (Kd.N_mono (Kd.N_far (p:=⟨gb341,0,none⟩) (Kd.N_mono HO334.out (fun k_ hk => (⟨hk,hk.1.2.2.2.2.2.2.2.2.2.2⟩ : _ ∧ k_ ≠ gb341))) (fun _ hk => hk.2) (.slice Ao74 y354.length co74)) (fun _ h_ => h_.1))) (Kd.R_base ho77) hb);have n8_:=zm_ (Kd.R_elder' zt9_32 (Kd.R_base ho77) hb);have n9_:=zm_ (Kd.N_elder' (by (with_reducible repeat (first|apply Kd.N_alloc|apply Kd.N_drewN|apply Kd.N_drew));exact (Kd.N_mono (Kd.N_far (p:=⟨gb341,0,none⟩) (Kd.N_mono HO353.out (fun k_ hk => (⟨hk,hk.1.2.2.2.2.2.2.2.2.2.2⟩ : _ ∧ k_ ≠ gb341))) (fun _ hk => hk.2) (.slice Ao74 y354.length co74)) (fun _ h_ => h_.1))) (Kd.R_base ho77) hb);have n10_:=zm_ (Kd.N_elder' (by (with_reducible repeat (first|apply Kd.N_alloc|apply Kd.N_drewN|apply Kd.N_drew));exact (Kd.N_mono (Kd.N_far (p:=⟨gb341,0,none⟩) (Kd.N_mono HO356.out (fun k_ hk => (⟨hk,hk.2.2.2.2.2.2.2.2.2⟩ : _ ∧ k_ ≠ gb341))) (fun _ hk => hk.2) (.slice Ao74 y354.length co74)) (fun _ h_ => h_.1))) (Kd.R_base ho77) hb);have n11_:=zm_ (Kd.R_lower (Kd.R_new' (Kd.R_new' (Kd.R_new' (Kd.R_new' ho77 (Kd.R_lt zt9_29)) (Kd.R_lt zt9_30)) (Kd.R_lt zt9_31)) (Kd.R_lt zt9_32)) (below_size zt9_4));have n12_:=zm_ (blk_below (g:=gb309) (o:=.cells #[.slice Ao32 t306.length co32] 28 (0,0)) zt9_18 hb);have n13_:=zm_ (blk_below (g:=gb341) (o:=.cells #[.slice Ao74 y354.length co74] 28 (0,0)) (by (with_reducible repeat first|refine zl_ ?_ _|refine zr_ ?_|refine zk_ ?_ _);refine blk_put (cs:=#[.slice Ao32 t306.length co32]) ?_ 0 _ rfl;(with_reducible repeat first|refine zl_ ?_ _|refine zr_ ?_|refine zk_ ?_ _);exact BK341.out) hb);have n14_:=zm_ (below_step zt9_4 hb);clear HO305;clear HO308;clear HO312;clear HO318;clear HO321;clear HO326;clear HO329;clear HO334;clear HO337;clear HO353;clear HO356;clear BK309;clear BK341;clear HB;have HO305:=n0_;have HO308:=n1_;have HO312:=n2_;have HO318:=n3_;have HO321:=n4_;have HO326:=n5_;have HO329:=n6_;have HO334:=n7_;have HO337:=n8_;have HO353:=n9_;have HO356:=n10_;have HO359:=n11_;have BK309:=n12_;have BK341:=n13_;have HB:=n14_;clear n0_ n1_ n2_ n3_ n4_ n5_ n6_ n7_ n8_ n9_ n10_ n11_ n12_ n13_ n14_;clear hb ho77;obtain ⟨Ao78,co78,eo78⟩:=Kd.R_slice HO359.out;subst eo78)|((with_reducible refine gate_callee (f:=12) rfl ?_);refine goesL_ (some 72) rfl rfl Try.func12 (by kernel_rfl) rfl #[.agg #[.slice Ao74 y354.length co74],.slice Ao78 y357.length co78,.int .i64 0] rfl zq_ ?_;(with_reducible refine (impl_EvalExpr.calls k _ _ y354 _ _ y357 0 t360 false _ ?side1 ?side2 ?side3 ?side4 A15.out).mono ?_);(case side1 => repeat (first|exact (Kd.N_reads' HO356.out).2.2|(with_reducible refine Kd.C_alloc ?_ _)|(with_reducible refine Kd.C_drewN ?_ _)|(with_reducible refine Kd.C_drew ?_)));(case side2 => exact (Kd.N_reads' HO356.out).2.1);(case side3 => repeat (first|exact (Kd.R_reads' HO359.out).2.2|(with_reducible refine Kd.C_alloc ?_ _)|(with_reducible refine Kd.C_drewN ?_ _)|(with_reducible refine Kd.C_drew ?_)));(case side4 => exact (Kd.R_reads' HO359.out).2.1);rintro e w79 ⟨rfl,hb⟩;refine ⟨_,rfl,?_⟩;have n0_:=zm_ (Kd.R_below zt9_1 hb);have n1_:=zm_ (Kd.N_below zt9_7 hb);have n2_:=zm_ (Kd.R_below zt9_2 hb);have n3_:=zm_ (Kd.N_below zt9_8 hb);have n4_:=zm_ (Kd.R_below zt9_6 hb);have n5_:=zm_ (Kd.N_below zt9_10 hb);have n6_:=zm_ (Kd.R_below zt9_9 hb);have n7_:=zm_ (Kd.N_below zt9_13 hb);have n8_:=zm_ (Kd.R_below zt9_11 hb);have n9_:=zm_ (Kd.N_below zt9_15 hb);have n10_:=zm_ (Kd.N_below zt9_16 hb);have n11_:=zm_ (Kd.R_below zt9_17 hb);have n12_:=zm_ (blk_below (g:=gb309) (o:=.cells #[.slice Ao32 t306.length co32] 28 (0,0)) zt9_3 hb);have n13_:=zm_ (blk_below (g:=gb341) (o:=.cells #[.slice Ao74 y354.length co74] 28 (0,0)) zt9_12 hb);have n14_:=zm_ (below_step zt9_4 hb);clear HO305;clear HO308;clear HO312;clear HO318;clear HO321;clear HO326;clear HO329;clear HO334;clear HO337;clear HO353;clear HO356;clear HO359;clear BK309;clear BK341;clear HB;have HO305:=n0_;have HO308:=n1_;have HO312:=n2_;have HO318:=n3_;have HO321:=n4_;have HO326:=n5_;have HO329:=n6_;have HO334:=n7_;have HO337:=n8_;have HO353:=n9_;have HO356:=n10_;have HO359:=n11_;have BK309:=n12_;have BK341:=n13_;have HB:=n14_;clear n0_ n1_ n2_ n3_ n4_ n5_ n6_ n7_ n8_ n9_ n10_ n11_ n12_ n13_ n14_;(try clear hb))|((with_reducible refine gate_callee (f:=13) rfl ?_);refine goesL_ (some 76) rfl rfl Try.func13 (by kernel_rfl) rfl #[.slice A0 l0.length c0] rfl zq_ ?_;(with_reducible refine (spec_DrawExprOk.calls k _ _ l0 t362 _ ?side1 ?side2 A16.out).mono ?_);(case side1 => exact zD_);(case side2 => exact HC0.out);rintro e w80 ⟨v363,rfl,ho0,hb⟩;refine ⟨_,rfl,?_⟩;have n0_:=zm_ (Kd.R_below zt9_1 hb);have n1_:=zm_ (Kd.N_elder' zt9_7 (Kd.N_base ho0) hb);have n2_:=zm_ (Kd.R_below zt9_2 hb);have n3_:=zm_ (Kd.N_elder' zt9_8 (Kd.N_base ho0) hb);have n4_:=zm_ (Kd.R_below zt9_6 hb);have n5_:=zm_ (Kd.N_elder' zt9_10 (Kd.N_base ho0) hb);have n6_:=zm_ (Kd.R_below zt9_9 hb);have n7_:=zm_ (Kd.N_elder' zt9_13 (Kd.N_base ho0) hb);have n8_:=zm_ (Kd.R_below zt9_11 hb);have n9_:=zm_ (Kd.N_elder' zt9_15 (Kd.N_base ho0) hb);have n10_:=zm_ (Kd.N_elder' zt9_16 (Kd.N_base ho0) hb);have n11_:=zm_ (Kd.R_below zt9_17 hb);have n12_:=zm_ (Kd.N_lower (Kd.N_mono (ok':=fun k_ => some k_ ≠ (.slice (some ad315) t303.length co38 : Value).ownBlock ∧ some k_ ≠ (.slice Ao32 t306.length co32 : Value).ownBlock ∧ some k_ ≠ (.slice Ao36 y310.length co36 : Value).ownBlock ∧ some k_ ≠ (.slice Ao42 t316.length co42 : Value).ownBlock ∧ some k_ ≠ (.slice Ao43 y319.length co43 : Value).ownBlock ∧ some k_ ≠ (.slice Ao47 y324.length co47 : Value).ownBlock ∧ some k_ ≠ (.slice Ao50 y327.length co50 : Value).ownBlock ∧ some k_ ≠ (.slice Ao54 y332.length co54 : Value).ownBlock ∧ some k_ ≠ (.slice Ao57 y335.length co57 : Value).ownBlock ∧ some k_ ≠ (.slice Ao73 y351.length co73 : Value).ownBlock ∧ some k_ ≠ (.slice Ao74 y354.length co74 : Value).ownBlock ∧ some k_ ≠ (.slice Ao78 y357.length co78 : Value).ownBlock ∧ k_ ≠ gb309 ∧ k_ ≠ gb341) ho0 (fun k_ hk_ => ⟨(Kd.fresh' (Kd.R_lt zt9_1) k_ hk_),(Kd.fresh' (Kd.N_lt zt9_7) k_ hk_),(Kd.fresh' (Kd.R_lt zt9_2) k_ hk_),(Kd.fresh' (Kd.N_lt zt9_8) k_ hk_),(Kd.fresh' (Kd.R_lt zt9_6) k_ hk_),(Kd.fresh' (Kd.N_lt zt9_10) k_ hk_),(Kd.fresh' (Kd.R_lt zt9_9) k_ hk_),(Kd.fresh' (Kd.N_lt zt9_13) k_ hk_),(Kd.fresh' (Kd.R_lt zt9_11) k_ hk_),(Kd.fresh' (Kd.N_lt zt9_15) k_ hk_),(Kd.fresh' (Kd.N_lt zt9_16) k_ hk_),(Kd.fresh' (Kd.R_lt zt9_17) k_ hk_),(Kd.freshB (g:=gb309) (o:=.cells #[.slice Ao32 t306.length co32] 28 (0,0)) zt9_3 k_ hk_),(Kd.freshB (g:=gb341) (o:=.cells #[.slice Ao74 y354.length co74] 28 (0,0)) zt9_12 k_ hk_)⟩)) (below_size zt9_4));have n13_:=zm_ (blk_below (g:=gb309) (o:=.cells #[.slice Ao32 t306.length co32] 28 (0,0)) zt9_3 hb);have n14_:=zm_ (blk_below (g:=gb341) (o:=.cells #[.slice Ao74 y354.length co74] 28 (0,0)) zt9_12 hb);have n15_:=zm_ (below_step zt9_4 hb);clear HO305;clear HO308;clear HO312;clear HO318;clear HO321;clear HO326;clear HO329;clear HO334;clear HO337;clear HO353;clear HO356;clear HO359;clear BK309;clear BK341;clear HB;have HO305:=n0_;have HO308:=n1_;have HO312:=n2_;have HO318:=n3_;have HO321:=n4_;have HO326:=n5_;have HO329:=n6_;have HO334:=n7_;have HO337:=n8_;have HO353:=n9_;have HO356:=n10_;have HO359:=n11_;have HO364:=n12_;have BK309:=n13_;have BK341:=n14_;have HB:=n15_;clear n0_ n1_ n2_ n3_ n4_ n5_ n6_ n7_ n8_ n9_ n10_ n11_ n12_ n13_ n14_ n15_;(try clear hb);(try clear hb2);(try clear hk);(try clear hi);(try clear ho0))|((with_reducible refine gate_dst (N:=16) rfl ?_);refine box_event ?hg (N:=16) ?hd (cs:=#[.slice none 0 0]) (t:=28) ?hr ?_;(case hd => rfl);(case hg => rfl);(case hr => first|(go_simp;done)|(go_simp;rfl));intro gb365 hg w81 hbox hb;have n0_:=zm_ (Kd.R_below zt9_1 hb);have n1_:=zm_ (Kd.N_below (Kd.N_elderB zt9_7 gb365 (Nat.le_of_eq hg.symm)) hb);have n2_:=zm_ (Kd.R_below zt9_2 hb);have n3_:=zm_ (Kd.N_below (Kd.N_elderB zt9_8 gb365 (Nat.le_of_eq hg.symm)) hb);have n4_:=zm_ (Kd.R_below zt9_6 hb);have n5_:=zm_ (Kd.N_below (Kd.N_elderB zt9_10 gb365 (Nat.le_of_eq hg.symm)) hb);have n6_:=zm_ (Kd.R_below zt9_9 hb);have n7_:=zm_ (Kd.N_below (Kd.N_elderB zt9_13 gb365 (Nat.le_of_eq hg.symm)) hb);have n8_:=zm_ (Kd.R_below zt9_11 hb);have n9_:=zm_ (Kd.N_below (Kd.N_elderB zt9_15 gb365 (Nat.le_of_eq hg.symm)) hb);have n10_:=zm_ (Kd.N_below (Kd.N_elderB zt9_16 gb365 (Nat.le_of_eq hg.symm)) hb);have n11_:=zm_ (Kd.R_below zt9_17 hb);have n12_:=zm_ (Kd.N_below (Kd.N_elderB (by (with_reducible repeat (first|apply Kd.N_alloc|apply Kd.N_drewN|apply Kd.N_drew));exact HO364.out) gb365 (Nat.le_of_eq hg.symm)) hb);have n13_:=zm_ (blk_below (g:=gb309) (o:=.cells #[.slice Ao32 t306.length co32] 28 (0,0)) zt9_3 hb);have n14_:=zm_ (blk_below (g:=gb341) (o:=.cells #[.slice Ao74 y354.length co74] 28 (0,0)) zt9_12 hb);have n15_:=zm_ (below_step zt9_4 hb);have n16_:=zm_ (hbox);have n17_:=zm_ ((by rw [hg];exact (below_size zt9_4) : w.heap.size ≤ gb365));have n18_:=zm_ ((by rw [hg];exact (below_size zt9_4) : w.heap.size ≤ gb365));have n19_:=zm_ ((by rw [hg];exact Nat.ne_of_lt (blk_lt (g:=gb309) (o:=.cells #[.slice Ao32 t306.length co32] 28 (0,0)) zt9_3) : gb309 ≠ gb365));have n20_:=zm_ ((by rw [hg];exact Nat.ne_of_gt (blk_lt (g:=gb309) (o:=.cells #[.slice Ao32 t306.length co32] 28 (0,0)) zt9_3) : gb365 ≠ gb309));have n21_:=zm_ ((by rw [hg];exact Nat.ne_of_lt (blk_lt (g:=gb341) (o:=.cells #[.slice Ao74 y354.length co74] 28 (0,0)) zt9_12) : gb341 ≠ gb365));have n22_:=zm_ ((by rw [hg];exact Nat.ne_of_gt (blk_lt (g:=gb341) (o:=.cells #[.slice Ao74 y354.length co74] 28 (0,0)) zt9_12) : gb365 ≠ gb341));clear HO305;clear HO308;clear HO312;clear HO318;clear HO321;clear HO326;clear HO329;clear HO334;clear HO337;clear HO353;clear HO356;clear HO359;clear HO364;clear BK309;clear BK341;clear HB;have HO305:=n0_;have HO308:=n1_;have HO312:=n2_;have HO318:=n3_;have HO321:=n4_;have HO326:=n5_;have HO329:=n6_;have HO334:=n7_;have HO337:=n8_;have HO353:=n9_;have HO356:=n10_;have HO359:=n11_;have HO364:=n12_;have BK309:=n13_;have BK341:=n14_;have HB:=n15_;have BK365:=n16_;have GW365:=n17_;have GE365:=n18_;have NB309_365:=n19_;have NB365_309:=n20_;have NB341_365:=n21_;have NB365_341:=n22_;clear n0_ n1_ n2_ n3_ n4_ n5_ n6_ n7_ n8_ n9_ n10_ n11_ n12_ n13_ n14_ n15_ n16_ n17_ n18_ n19_ n20_ n21_ n22_;clear hb hbox hg;obtain ⟨Ao82,co82,eo82⟩:=Kd.N_slice HO364.out;subst eo82;have hnb83:=NB365_309.out;have hnc83:=NB309_365.out;have hnb84:=NB365_341.out;have hnc84:=NB341_365.out;have hcz85_0 : w81.cell? ⟨gb365,0,none⟩ = some (.slice none 0 0):=(zc_ BK365.out 0).trans rfl;have hfz85_0:=zf_ BK365.out 0))
                have n0_ : Aside0 (Kd.R (Kd.int .i64) 3 (w81.setCell ⟨gb365,0,none⟩ (.slice Ao82 t362.length co82)) w.heap.size (fun _ => True) (.slice (some ad315) t303.length co38) t303):=⟨by (with_reducible repeat (first|apply Kd.R_alloc|apply Kd.R_drewN|apply Kd.R_drew));exact Kd.R_mono (Kd.R_far (p:=⟨gb365,0,none⟩) (Kd.R_types HO305.out BK365.out (by decide)) (fun _ hk => hk.2) (.slice Ao82 t362.length co82)) (fun _ hk => trivial)⟩
                have n1_ : Aside0 (Kd.N k34 34 (w81.setCell ⟨gb365,0,none⟩ (.slice Ao82 t362.length co82)) w.heap.size (fun k_ => some k_ ≠ (.slice (some ad315) t303.length co38 : Value).ownBlock ∧ some k_ ≠ (.slice Ao36 y310.length co36 : Value).ownBlock ∧ some k_ ≠ (.slice Ao42 t316.length co42 : Value).ownBlock ∧ some k_ ≠ (.slice Ao43 y319.length co43 : Value).ownBlock ∧ some k_ ≠ (.slice Ao47 y324.length co47 : Value).ownBlock ∧ some k_ ≠ (.slice Ao50 y327.length co50 : Value).ownBlock ∧ some k_ ≠ (.slice Ao54 y332.length co54 : Value).ownBlock ∧ some k_ ≠ (.slice Ao57 y335.length co57 : Value).ownBlock ∧ some k_ ≠ (.slice Ao73 y351.length co73 : Value).ownBlock ∧ some k_ ≠ (.slice Ao74 y354.length co74 : Value).ownBlock ∧ some k_ ≠ (.slice Ao78 y357.length co78 : Value).ownBlock ∧ some k_ ≠ (.slice Ao82 t362.length co82 : Value).ownBlock ∧ k_ ≠ gb309 ∧ k_ ≠ gb341 ∧ k_ ≠ gb365) (.slice Ao32 t306.length co32) t306):=⟨by (with_reducible repeat (first|apply Kd.N_alloc|apply Kd.N_drewN|apply Kd.N_drew));exact Kd.N_mono (Kd.N_far (p:=⟨gb365,0,none⟩) (Kd.N_mono HO308.out (fun k_ hk => (⟨hk,hk.2⟩ : _ ∧ k_ ≠ gb365))) (fun _ hk => hk.2) (.slice Ao82 t362.length co82)) (fun _ hk => ⟨hk.1.1.1.1.1.1,⟨hk.1.1.1.1.1.2.1,⟨hk.1.1.1.1.1.2.2.1,⟨hk.1.1.1.1.1.2.2.2.1,⟨hk.1.1.1.1.1.2.2.2.2.1,⟨hk.1.1.1.1.1.2.2.2.2.2.1,⟨hk.1.1.1.1.1.2.2.2.2.2.2.1,⟨hk.1.1.1.1.1.2.2.2.2.2.2.2.1,⟨hk.1.1.1.1.1.2.2.2.2.2.2.2.2.1,⟨hk.1.1.1.1.2,⟨hk.1.1.1.2,⟨hk.1.1.2,⟨hk.1.1.1.1.1.2.2.2.2.2.2.2.2.2.1,⟨hk.1.1.1.1.1.2.2.2.2.2.2.2.2.2.2,hk.1.2⟩⟩⟩⟩⟩⟩⟩⟩⟩⟩⟩⟩⟩⟩)⟩
                have n2_ : Aside0 (Kd.R k87 87 (w81.setCell ⟨gb365,0,none⟩ (.slice Ao82 t362.length co82)) w.heap.size (fun k_ => some k_ ≠ (.slice Ao43 y319.length co43 : Value).ownBlock ∧ some k_ ≠ (.slice Ao50 y327.length co50 : Value).ownBlock ∧ some k_ ≠ (.slice Ao57 y335.length co57 : Value).ownBlock ∧ some k_ ≠ (.slice Ao78 y357.length co78 : Value).ownBlock) (.slice Ao36 y310.length co36) y310):=⟨by (with_reducible repeat (first|apply Kd.R_alloc|apply Kd.R_drewN|apply Kd.R_drew));exact Kd.R_mono (Kd.R_far (p:=⟨gb365,0,none⟩) (Kd.R_types HO312.out BK365.out (by decide)) (fun _ hk => hk.2) (.slice Ao82 t362.length co82)) (fun _ hk => ⟨hk.1.1.1.1.2,⟨hk.1.1.1.2,⟨hk.1.1.2,hk.1.2⟩⟩⟩)⟩
                have n3_ : Aside0 (Kd.N k34 34 (w81.setCell ⟨gb365,0,none⟩ (.slice Ao82 t362.length co82)) w.heap.size (fun k_ => some k_ ≠ (.slice (some ad315) t303.length co38 : Value).ownBlock ∧ some k_ ≠ (.slice Ao32 t306.length co32 : Value).ownBlock ∧ some k_ ≠ (.slice Ao36 y310.length co36 : Value).ownBlock ∧ some k_ ≠ (.slice Ao43 y319.length co43 : Value).ownBlock ∧ some k_ ≠ (.slice Ao47 y324.length co47 : Value).ownBlock ∧ some k_ ≠ (.slice Ao50 y327.length co50 : Value).ownBlock ∧ some k_ ≠ (.slice Ao54 y332.length co54 : Value).ownBlock ∧ some k_ ≠ (.slice Ao57 y335.length co57 : Value).ownBlock ∧ some k_ ≠ (.slice Ao73 y351.length co73 : Value).ownBlock ∧ some k_ ≠ (.slice Ao74 y354.length co74 : Value).ownBlock ∧ some k_ ≠ (.slice Ao78 y357.length co78 : Value).ownBlock ∧ some k_ ≠ (.slice Ao82 t362.length co82 : Value).ownBlock ∧ k_ ≠ gb309 ∧ k_ ≠ gb341 ∧ k_ ≠ gb365) (.slice Ao42 t316.length co42) t316):=⟨by (with_reducible repeat (first|apply Kd.N_alloc|apply Kd.N_drewN|apply Kd.N_drew));exact Kd.N_mono (Kd.N_far (p:=⟨gb365,0,none⟩) (Kd.N_mono HO318.out (fun k_ hk => (⟨hk,hk.2⟩ : _ ∧ k_ ≠ gb365))) (fun _ hk => hk.2) (.slice Ao82 t362.length co82)) (fun _ hk => ⟨hk.1.1.1.1.1.1,⟨hk.1.1.1.1.1.2.1,⟨hk.1.1.1.1.1.2.2.1,⟨hk.1.1.1.1.1.2.2.2.1,⟨hk.1.1.1.1.1.2.2.2.2.1,⟨hk.1.1.1.1.1.2.2.2.2.2.1,⟨hk.1.1.1.1.1.2.2.2.2.2.2.1,⟨hk.1.1.1.1.1.2.2.2.2.2.2.2.1,⟨hk.1.1.1.1.1.2.2.2.2.2.2.2.2.1,⟨hk.1.1.1.1.2,⟨hk.1.1.1.2,⟨hk.1.1.2,⟨hk.1.1.1.1.1.2.2.2.2.2.2.2.2.2.1,⟨hk.1.1.1.1.1.2.2.2.2.2.2.2.2.2.2,hk.1.2⟩⟩⟩⟩⟩⟩⟩⟩⟩⟩⟩⟩⟩⟩)⟩
                have n4_ : Aside0 (Kd.R k87 87 (w81.setCell ⟨gb365,0,none⟩ (.slice Ao82 t362.length co82)) w.heap.size (fun k_ => some k_ ≠ (.slice Ao36 y310.length co36 : Value).ownBlock ∧ some k_ ≠ (.slice Ao50 y327.length co50 : Value).ownBlock ∧ some k_ ≠ (.slice Ao57 y335.length co57 : Value).ownBlock ∧ some k_ ≠ (.slice Ao78 y357.length co78 : Value).ownBlock) (.slice Ao43 y319.length co43) y319):=⟨by (with_reducible repeat (first|apply Kd.R_alloc|apply Kd.R_drewN|apply Kd.R_drew));exact Kd.R_mono (Kd.R_far (p:=⟨gb365,0,none⟩) (Kd.R_types HO321.out BK365.out (by decide)) (fun _ hk => hk.2) (.slice Ao82 t362.length co82)) (fun _ hk => ⟨hk.1.1.1.1.2,⟨hk.1.1.1.2,⟨hk.1.1.2,hk.1.2⟩⟩⟩)⟩
                have n5_ : Aside0 (Kd.N k34 34 (w81.setCell ⟨gb365,0,none⟩ (.slice Ao82 t362.length co82)) w.heap.size (fun k_ => some k_ ≠ (.slice (some ad315) t303.length co38 : Value).ownBlock ∧ some k_ ≠ (.slice Ao32 t306.length co32 : Value).ownBlock ∧ some k_ ≠ (.slice Ao36 y310.length co36 : Value).ownBlock ∧ some k_ ≠ (.slice Ao42 t316.length co42 : Value).ownBlock ∧ some k_ ≠ (.slice Ao43 y319.length co43 : Value).ownBlock ∧ some k_ ≠ (.slice Ao50 y327.length co50 : Value).ownBlock ∧ some k_ ≠ (.slice Ao54 y332.length co54 : Value).ownBlock ∧ some k_ ≠ (.slice Ao57 y335.length co57 : Value).ownBlock ∧ some k_ ≠ (.slice Ao73 y351.length co73 : Value).ownBlock ∧ some k_ ≠ (.slice Ao74 y354.length co74 : Value).ownBlock ∧ some k_ ≠ (.slice Ao78 y357.length co78 : Value).ownBlock ∧ some k_ ≠ (.slice Ao82 t362.length co82 : Value).ownBlock ∧ k_ ≠ gb309 ∧ k_ ≠ gb341 ∧ k_ ≠ gb365) (.slice Ao47 y324.length co47) y324):=⟨by (with_reducible repeat (first|apply Kd.N_alloc|apply Kd.N_drewN|apply Kd.N_drew));exact Kd.N_mono (Kd.N_far (p:=⟨gb365,0,none⟩) (Kd.N_mono HO326.out (fun k_ hk => (⟨hk,hk.2⟩ : _ ∧ k_ ≠ gb365))) (fun _ hk => hk.2) (.slice Ao82 t362.length co82)) (fun _ hk => ⟨hk.1.1.1.1.1.1,⟨hk.1.1.1.1.1.2.1,⟨hk.1.1.1.1.1.2.2.1,⟨hk.1.1.1.1.1.2.2.2.1,⟨hk.1.1.1.1.1.2.2.2.2.1,⟨hk.1.1.1.1.1.2.2.2.2.2.1,⟨hk.1.1.1.1.1.2.2.2.2.2.2.1,⟨hk.1.1.1.1.1.2.2.2.2.2.2.2.1,⟨hk.1.1.1.1.1.2.2.2.2.2.2.2.2.1,⟨hk.1.1.1.1.2,⟨hk.1.1.1.2,⟨hk.1.1.2,⟨hk.1.1.1.1.1.2.2.2.2.2.2.2.2.2.1,⟨hk.1.1.1.1.1.2.2.2.2.2.2.2.2.2.2,hk.1.2⟩⟩⟩⟩⟩⟩⟩⟩⟩⟩⟩⟩⟩⟩)⟩
                have n6_ : Aside0 (Kd.R k87 87 (w81.setCell ⟨gb365,0,none⟩ (.slice Ao82 t362.length co82)) w.heap.size (fun k_ => some k_ ≠ (.slice Ao36 y310.length co36 : Value).ownBlock ∧ some k_ ≠ (.slice Ao43 y319.length co43 : Value).ownBlock ∧ some k_ ≠ (.slice Ao57 y335.length co57 : Value).ownBlock ∧ some k_ ≠ (.slice Ao78 y357.length co78 : Value).ownBlock) (.slice Ao50 y327.length co50) y327):=⟨by (with_reducible repeat (first|apply Kd.R_alloc|apply Kd.R_drewN|apply Kd.R_drew));exact Kd.R_mono (Kd.R_far (p:=⟨gb365,0,none⟩) (Kd.R_types HO329.out BK365.out (by decide)) (fun _ hk => hk.2) (.slice Ao82 t362.length co82)) (fun _ hk => ⟨hk.1.1.1.1.2,⟨hk.1.1.1.2,⟨hk.1.1.2,hk.1.2⟩⟩⟩)⟩
                have n7_ : Aside0 (Kd.N k34 34 (w81.setCell ⟨gb365,0,none⟩ (.slice Ao82 t362.length co82)) w.heap.size (fun k_ => some k_ ≠ (.slice (some ad315) t303.length co38 : Value).ownBlock ∧ some k_ ≠ (.slice Ao32 t306.length co32 : Value).ownBlock ∧ some k_ ≠ (.slice Ao36 y310.length co36 : Value).ownBlock ∧ some k_ ≠ (.slice Ao42 t316.length co42 : Value).ownBlock ∧ some k_ ≠ (.slice Ao43 y319.length co43 : Value).ownBlock ∧ some k_ ≠ (.slice Ao47 y324.length co47 : Value).ownBlock ∧ some k_ ≠ (.slice Ao50 y327.length co50 : Value).ownBlock ∧ some k_ ≠ (.slice Ao57 y335.length co57 : Value).ownBlock ∧ some k_ ≠ (.slice Ao73 y351.length co73 : Value).ownBlock ∧ some k_ ≠ (.slice Ao74 y354.length co74 : Value).ownBlock ∧ some k_ ≠ (.slice Ao78 y357.length co78 : Value).ownBlock ∧ some k_ ≠ (.slice Ao82 t362.length co82 : Value).ownBlock ∧ k_ ≠ gb309 ∧ k_ ≠ gb341 ∧ k_ ≠ gb365) (.slice Ao54 y332.length co54) y332):=⟨by (with_reducible repeat (first|apply Kd.N_alloc|apply Kd.N_drewN|apply Kd.N_drew));exact Kd.N_mono (Kd.N_far (p:=⟨gb365,0,none⟩) (Kd.N_mono HO334.out (fun k_ hk => (⟨hk,hk.2⟩ : _ ∧ k_ ≠ gb365))) (fun _ hk => hk.2) (.slice Ao82 t362.length co82)) (fun _ hk => ⟨hk.1.1.1.1.1.1,⟨hk.1.1.1.1.1.2.1,⟨hk.1.1.1.1.1.2.2.1,⟨hk.1.1.1.1.1.2.2.2.1,⟨hk.1.1.1.1.1.2.2.2.2.1,⟨hk.1.1.1.1.1.2.2.2.2.2.1,⟨hk.1.1.1.1.1.2.2.2.2.2.2.1,⟨hk.1.1.1.1.1.2.2.2.2.2.2.2.1,⟨hk.1.1.1.1.1.2.2.2.2.2.2.2.2.1,⟨hk.1.1.1.1.2,⟨hk.1.1.1.2,⟨hk.1.1.2,⟨hk.1.1.1.1.1.2.2.2.2.2.2.2.2.2.1,⟨hk.1.1.1.1.1.2.2.2.2.2.2.2.2.2.2,hk.1.2⟩⟩⟩⟩⟩⟩⟩⟩⟩⟩⟩⟩⟩⟩)⟩
                have n8_ : Aside0 (Kd.R k87 87 (w81.setCell ⟨gb365,0,none⟩ (.slice Ao82 t362.length co82)) w.heap.size (fun k_ => some k_ ≠ (.slice Ao36 y310.length co36 : Value).ownBlock ∧ some k_ ≠ (.slice Ao43 y319.length co43 : Value).ownBlock ∧ some k_ ≠ (.slice Ao50 y327.length co50 : Value).ownBlock ∧ some k_ ≠ (.slice Ao78 y357.length co78 : Value).ownBlock) (.slice Ao57 y335.length co57) y335):=⟨by (with_reducible repeat (first|apply Kd.R_alloc|apply Kd.R_drewN|apply Kd.R_drew));exact Kd.R_mono (Kd.R_far (p:=⟨gb365,0,none⟩) (Kd.R_types HO337.out BK365.out (by decide)) (fun _ hk => hk.2) (.slice Ao82 t362.length co82)) (fun _ hk => ⟨hk.1.1.1.1.2,⟨hk.1.1.1.2,⟨hk.1.1.2,hk.1.2⟩⟩⟩)⟩
                have n9_ : Aside0 (Kd.N k34 34 (w81.setCell ⟨gb365,0,none⟩ (.slice Ao82 t362.length co82)) w.heap.size (fun k_ => some k_ ≠ (.slice (some ad315) t303.length co38 : Value).ownBlock ∧ some k_ ≠ (.slice Ao32 t306.length co32 : Value).ownBlock ∧ some k_ ≠ (.slice Ao36 y310.length co36 : Value).ownBlock ∧ some k_ ≠ (.slice Ao42 t316.length co42 : Value).ownBlock ∧ some k_ ≠ (.slice Ao43 y319.length co43 : Value).ownBlock ∧ some k_ ≠ (.slice Ao47 y324.length co47 : Value).ownBlock ∧ some k_ ≠ (.slice Ao50 y327.length co50 : Value).ownBlock ∧ some k_ ≠ (.slice Ao54 y332.length co54 : Value).ownBlock ∧ some k_ ≠ (.slice Ao57 y335.length co57 : Value).ownBlock ∧ some k_ ≠ (.slice Ao74 y354.length co74 : Value).ownBlock ∧ some k_ ≠ (.slice Ao78 y357.length co78 : Value).ownBlock ∧ some k_ ≠ (.slice Ao82 t362.length co82 : Value).ownBlock ∧ k_ ≠ gb309 ∧ k_ ≠ gb341 ∧ k_ ≠ gb365) (.slice Ao73 y351.length co73) y351):=⟨by (with_reducible repeat (first|apply Kd.N_alloc|apply Kd.N_drewN|apply Kd.N_drew));exact Kd.N_mono (Kd.N_far (p:=⟨gb365,0,none⟩) (Kd.N_mono HO353.out (fun k_ hk => (⟨hk,hk.2⟩ : _ ∧ k_ ≠ gb365))) (fun _ hk => hk.2) (.slice Ao82 t362.length co82)) (fun _ hk => ⟨hk.1.1.1.1.1.1,⟨hk.1.1.1.1.1.2.1,⟨hk.1.1.1.1.1.2.2.1,⟨hk.1.1.1.1.1.2.2.2.1,⟨hk.1.1.1.1.1.2.2.2.2.1,⟨hk.1.1.1.1.1.2.2.2.2.2.1,⟨hk.1.1.1.1.1.2.2.2.2.2.2.1,⟨hk.1.1.1.1.1.2.2.2.2.2.2.2.1,⟨hk.1.1.1.1.1.2.2.2.2.2.2.2.2.1,⟨hk.1.1.1.1.2,⟨hk.1.1.1.2,⟨hk.1.1.2,⟨hk.1.1.1.1.1.2.2.2.2.2.2.2.2.2.1,⟨hk.1.1.1.1.1.2.2.2.2.2.2.2.2.2.2,hk.1.2⟩⟩⟩⟩⟩⟩⟩⟩⟩⟩⟩⟩⟩⟩)⟩
                have n10_ : Aside0 (Kd.N k34 34 (w81.setCell ⟨gb365,0,none⟩ (.slice Ao82 t362.length co82)) w.heap.size (fun k_ => some k_ ≠ (.slice (some ad315) t303.length co38 : Value).ownBlock ∧ some k_ ≠ (.slice Ao36 y310.length co36 : Value).ownBlock ∧ some k_ ≠ (.slice Ao42 t316.length co42 : Value).ownBlock ∧ some k_ ≠ (.slice Ao43 y319.length co43 : Value).ownBlock ∧ some k_ ≠ (.slice Ao47 y324.length co47 : Value).ownBlock ∧ some k_ ≠ (.slice Ao50 y327.length co50 : Value).ownBlock ∧ some k_ ≠ (.slice Ao54 y332.length co54 : Value).ownBlock ∧ some k_ ≠ (.slice Ao57 y335.length co57 : Value).ownBlock ∧ some k_ ≠ (.slice Ao78 y357.length co78 : Value).ownBlock ∧ some k_ ≠ (.slice Ao82 t362.length co82 : Value).ownBlock ∧ k_ ≠ gb309 ∧ k_ ≠ gb341 ∧ k_ ≠ gb365) (.slice Ao74 y354.length co74) y354):=⟨by (with_reducible repeat (first|apply Kd.N_alloc|apply Kd.N_drewN|apply Kd.N_drew));exact Kd.N_mono (Kd.N_far (p:=⟨gb365,0,none⟩) (Kd.N_mono HO356.out (fun k_ hk => (⟨hk,hk.2⟩ : _ ∧ k_ ≠ gb365))) (fun _ hk => hk.2) (.slice Ao82 t362.length co82)) (fun _ hk => ⟨hk.1.1.1.1.1,⟨hk.1.1.1.1.2.1,⟨hk.1.1.1.1.2.2.1,⟨hk.1.1.1.1.2.2.2.1,⟨hk.1.1.1.1.2.2.2.2.1,⟨hk.1.1.1.1.2.2.2.2.2.1,⟨hk.1.1.1.1.2.2.2.2.2.2.1,⟨hk.1.1.1.1.2.2.2.2.2.2.2.1,⟨hk.1.1.1.2,⟨hk.1.1.2,⟨hk.1.1.1.1.2.2.2.2.2.2.2.2.1,⟨hk.1.1.1.1.2.2.2.2.2.2.2.2.2,hk.1.2⟩⟩⟩⟩⟩⟩⟩⟩⟩⟩⟩⟩)⟩
                have n11_ : Aside0 (Kd.R k87 87 (w81.setCell ⟨gb365,0,none⟩ (.slice Ao82 t362.length co82)) w.heap.size (fun k_ => some k_ ≠ (.slice Ao36 y310.length co36 : Value).ownBlock ∧ some k_ ≠ (.slice Ao43 y319.length co43 : Value).ownBlock ∧ some k_ ≠ (.slice Ao50 y327.length co50 : Value).ownBlock ∧ some k_ ≠ (.slice Ao57 y335.length co57 : Value).ownBlock) (.slice Ao78 y357.length co78) y357):=⟨by (with_reducible repeat (first|apply Kd.R_alloc|apply Kd.R_drewN|apply Kd.R_drew));exact Kd.R_mono (Kd.R_far (p:=⟨gb365,0,none⟩) (Kd.R_types HO359.out BK365.out (by decide)) (fun _ hk => hk.2) (.slice Ao82 t362.length co82)) (fun _ hk => ⟨hk.1.1.1.1.2,⟨hk.1.1.1.2,⟨hk.1.1.2,hk.1.2⟩⟩⟩)⟩
                have n12_ : Aside0 (Kd.N k34 34 (w81.setCell ⟨gb365,0,none⟩ (.slice Ao82 t362.length co82)) w.heap.size (fun k_ => some k_ ≠ (.slice (some ad315) t303.length co38 : Value).ownBlock ∧ some k_ ≠ (.slice Ao32 t306.length co32 : Value).ownBlock ∧ some k_ ≠ (.slice Ao36 y310.length co36 : Value).ownBlock ∧ some k_ ≠ (.slice Ao42 t316.length co42 : Value).ownBlock ∧ some k_ ≠ (.slice Ao43 y319.length co43 : Value).ownBlock ∧ some k_ ≠ (.slice Ao47 y324.length co47 : Value).ownBlock ∧ some k_ ≠ (.slice Ao50 y327.length co50 : Value).ownBlock ∧ some k_ ≠ (.slice Ao54 y332.length co54 : Value).ownBlock ∧ some k_ ≠ (.slice Ao57 y335.length co57 : Value).ownBlock ∧ some k_ ≠ (.slice Ao73 y351.length co73 : Value).ownBlock ∧ some k_ ≠ (.slice Ao74 y354.length co74 : Value).ownBlock ∧ some k_ ≠ (.slice Ao78 y357.length co78 : Value).ownBlock ∧ k_ ≠ gb309 ∧ k_ ≠ gb341 ∧ k_ ≠ gb365) (.slice Ao82 t362.length co82) t362):=⟨by (with_reducible repeat (first|apply Kd.N_alloc|apply Kd.N_drewN|apply Kd.N_drew));exact Kd.N_mono (Kd.N_far (p:=⟨gb365,0,none⟩) (Kd.N_mono HO364.out (fun k_ hk => (⟨hk,hk.2⟩ : _ ∧ k_ ≠ gb365))) (fun _ hk => hk.2) (.slice Ao82 t362.length co82)) (fun _ hk => ⟨hk.1.1.1,⟨hk.1.1.2.1,⟨hk.1.1.2.2.1,⟨hk.1.1.2.2.2.1,⟨hk.1.1.2.2.2.2.1,⟨hk.1.1.2.2.2.2.2.1,⟨hk.1.1.2.2.2.2.2.2.1,⟨hk.1.1.2.2.2.2.2.2.2.1,⟨hk.1.1.2.2.2.2.2.2.2.2.1,⟨hk.1.1.2.2.2.2.2.2.2.2.2.1,⟨hk.1.1.2.2.2.2.2.2.2.2.2.2.1,⟨hk.1.1.2.2.2.2.2.2.2.2.2.2.2.1,⟨hk.1.1.2.2.2.2.2.2.2.2.2.2.2.2.1,⟨hk.1.1.2.2.2.2.2.2.2.2.2.2.2.2.2,hk.1.2⟩⟩⟩⟩⟩⟩⟩⟩⟩⟩⟩⟩⟩⟩)⟩
                have n13_ : Aside0 ((w81.setCell ⟨gb365,0,none⟩ (.slice Ao82 t362.length co82)).heap[gb309]? = some (.cells #[.slice Ao32 t306.length co32] 28 (0,0))):=⟨by (with_reducible repeat first|refine zl_ ?_ _|refine zr_ ?_|refine zk_ ?_ _);refine blk_far ?_ NB309_365.out _;(with_reducible repeat first|refine zl_ ?_ _|refine zr_ ?_|refine zk_ ?_ _);exact BK309.out⟩
                have n14_ : Aside0 ((w81.setCell ⟨gb365,0,none⟩ (.slice Ao82 t362.length co82)).heap[gb341]? = some (.cells #[.slice Ao74 y354.length co74] 28 (0,0))):=⟨by (with_reducible repeat first|refine zl_ ?_ _|refine zr_ ?_|refine zk_ ?_ _);refine blk_far ?_ NB341_365.out _;(with_reducible repeat first|refine zl_ ?_ _|refine zr_ ?_|refine zk_ ?_ _);exact BK341.out⟩
                have n15_ : Aside0 ((w81.setCell ⟨gb365,0,none⟩ (.slice Ao82 t362.length co82)).heap[gb365]? = some (.cells #[.slice Ao82 t362.length co82] 28 (0,0))):=⟨by (with_reducible repeat first|refine zl_ ?_ _|refine zr_ ?_|refine zk_ ?_ _);refine blk_put (cs:=#[.slice none 0 0]) ?_ 0 _ rfl;(with_reducible repeat first|refine zl_ ?_ _|refine zr_ ?_|refine zk_ ?_ _);exact BK365.out⟩
                have n16_ : Aside0 (Below w.heap.size w (w81.setCell ⟨gb365,0,none⟩ (.slice Ao82 t362.length co82))):=⟨by repeat (first|(with_reducible first|exact HB.out|apply za_|apply zn_|apply zd_|refine zs_ ?_ GE309.out|refine zs_ ?_ GE341.out|refine zs_ ?_ GE365.out)|exact HB.out)⟩
                (try clear HO305)
                (try clear HO308)
                (try clear HO312)
                (try clear HO318)
                (try clear HO321)
                (try clear HO326)
                (try clear HO329)
                (try clear HO334)
                (try clear HO337)
                (try clear HO353)
                (try clear HO356)
                (try clear HO359)
                (try clear HO364)
                (try clear BK309)
                (try clear BK341)
                (try clear BK365)
                (try clear HB)
                generalize (w81.setCell ⟨gb365,0,none⟩ (.slice Ao82 t362.length co82)) = w86 at n0_ n1_ n2_ n3_ n4_ n5_ n6_ n7_ n8_ n9_ n10_ n11_ n12_ n13_ n14_ n15_ n16_ ⊢
                have HO305:=n0_
                have HO308:=n1_
                have HO312:=n2_
                have HO318:=n3_
                have HO321:=n4_
                have HO326:=n5_
                have HO329:=n6_
                have HO334:=n7_
                have HO337:=n8_
                have HO353:=n9_
                have HO356:=n10_
                have HO359:=n11_
                have HO364:=n12_
                have BK309:=n13_
                have BK341:=n14_
                have BK365:=n15_
                have HB:=n16_
                clear n0_ n1_ n2_ n3_ n4_ n5_ n6_ n7_ n8_ n9_ n10_ n11_ n12_ n13_ n14_ n15_ n16_
                have n0_:=zm_ (Kd.R_drew HO305.out)
                have n1_:=zm_ (Kd.N_drew HO308.out)
                have n2_:=zm_ (Kd.R_drew HO312.out)
                have n3_:=zm_ (Kd.N_drew HO318.out)
                have n4_:=zm_ (Kd.R_drew HO321.out)
                have n5_:=zm_ (Kd.N_drew HO326.out)
                have n6_:=zm_ (Kd.R_drew HO329.out)
                have n7_:=zm_ (Kd.N_drew HO334.out)
                have n8_:=zm_ (Kd.R_drew HO337.out)
                have n9_:=zm_ (Kd.N_drew HO353.out)
                have n10_:=zm_ (Kd.N_drew HO356.out)
                have n11_:=zm_ (Kd.R_drew HO359.out)
                have n12_:=zm_ (Kd.N_drew HO364.out)
                have n13_:=zm_ (zr_ BK309.out)
                have n14_:=zm_ (zr_ BK341.out)
                have n15_:=zm_ (zr_ BK365.out)
                have n16_:=zm_ (zd_ HB.out)
                clear HO305
                clear HO308
                clear HO312
                clear HO318
                clear HO321
                clear HO326
                clear HO329
                clear HO334
                clear HO337
                clear HO353
                clear HO356
                clear HO359
                clear HO364
                clear BK309
                clear BK341
                clear BK365
                clear HB
                have HO305:=n0_
                have HO308:=n1_
                have HO312:=n2_
                have HO318:=n3_
                have HO321:=n4_
                have HO326:=n5_
                have HO329:=n6_
                have HO334:=n7_
                have HO337:=n8_
                have HO353:=n9_
                have HO356:=n10_
                have HO359:=n11_
                have HO364:=n12_
                have BK309:=n13_
                have BK341:=n14_
                have BK365:=n15_
                have HB:=n16_
                clear n0_ n1_ n2_ n3_ n4_ n5_ n6_ n7_ n8_ n9_ n10_ n11_ n12_ n13_ n14_ n15_ n16_
                have p366 : 0 ≤ (1 : Int):=(by omega)
                have q366 : 1 < (t303.length : Int):=zo_
                obtain ⟨ad366,e366,hx366_0⟩:=Kd.at_int (Kd.R_reads' HO305.out).2.2 1 p366 q366
                obtain rfl : ad315 = ad366:=(by injection e366)
                (try simp only [show (1 : Int).toNat = 1 from rfl,Nat.reduceMul,Nat.reduceEqDiff,Go.Addr.add,↓reduceIte] at hx366_0)
                have qi366 : (1 < t303.length) = True:=eq_true (by omega)
                (try rw [show ((1 : Int)).toNat = 1 from rfl] at hx366_0)
                replace p366:=eq_true p366
                replace q366:=eq_true q366
                refine start_ (n:=48) (S:=fun w' => w'.cell? ⟨gb365,0,none⟩ = some (.slice Ao82 t362.length co82) ∧ w'.cell? ⟨ad315.block,ad315.off + 1,none⟩ = some (.int .i64 (rd t303 1))) (ds:=[]) #[false,false,false,false,false,false,false,false,false,false,false,false,false,false,false,false,false,false,false,false,false,false,false,false,false,false,false,false,false,false,false,false,false,false,false,false,false,false,false,false,false,false,false,false,false,false,false,false] (by kernel_rfl) rfl rfl ⟨(zc_ BK365.out 0).trans rfl,hx366_0⟩ (fun hHeld => ?_);refine with_tabW laws_FnExprWrong.tab13 laws_FnExprWrong.bits13 (fun HT_ HW_ => ?_)
                generalize w86.drew = w87 at HO305 HO308 HO312 HO318 HO321 HO326 HO329 HO334 HO337 HO353 HO356 HO359 HO364 BK309 BK341 BK365 HB hx366_0 hHeld ⊢
                refine pure_ (i:=0) (N:=some 77) (v:=?_) (a':=?_) #[true,false,false,false,false,false,false,false,false,false,false,false,false,false,false,false,false,false,false,false,false,false,false,false,false,false,false,false,false,false,false,false,false,false,false,false,false,false,false,false,false,false,false,false,false,false,false,false] rfl rfl (any_of HT_.out (by kernel_rfl)) (fun _ _ _ h => h) (Or.inl ⟨by rfl,?_⟩) ?_ ?_
                rotate_left
                ·intro w'
                 go_simp
                 with_reducible rfl
                rotate_left
                ·simp only [Act.put,List.setIfInBounds_toArray,List.set_cons_zero,List.set_cons_succ,i64_w,i32_w,IntKind.wrap_u8]
                 rfl
                refine pure_ (i:=1) (N:=some 78) (v:=?_) (a':=?_) #[true,true,false,false,false,false,false,false,false,false,false,false,false,false,false,false,false,false,false,false,false,false,false,false,false,false,false,false,false,false,false,false,false,false,false,false,false,false,false,false,false,false,false,false,false,false,false,false] rfl rfl (any_of HT_.out (by kernel_rfl)) (fun _ _ _ h => h) (Or.inl ⟨by rfl,?_⟩) ?_ ?_
                rotate_left
                ·intro w'
                 go_simp
                 with_reducible rfl
                rotate_left
                ·simp only [Act.put,List.setIfInBounds_toArray,List.set_cons_zero,List.set_cons_succ,i64_w,i32_w,IntKind.wrap_u8]
                 rfl
                refine pure_ (i:=2) (N:=some 79) (v:=?_) (a':=?_) #[true,true,true,false,false,false,false,false,false,false,false,false,false,false,false,false,false,false,false,false,false,false,false,false,false,false,false,false,false,false,false,false,false,false,false,false,false,false,false,false,false,false,false,false,false,false,false,false] rfl rfl (any_of HT_.out (by kernel_rfl)) (fun _ _ _ h => h) (Or.inl ⟨by rfl,?_⟩) ?_ ?_
                rotate_left
                ·intro w'
                 go_simp
                 with_reducible rfl
                rotate_left
                ·simp only [Act.put,List.setIfInBounds_toArray,List.set_cons_zero,List.set_cons_succ,i64_w,i32_w,IntKind.wrap_u8]
                 rfl
                refine pure_ (i:=3) (N:=some 80) (v:=?_) (a':=?_) #[true,true,true,true,false,false,false,false,false,false,false,false,false,false,false,false,false,false,false,false,false,false,false,false,false,false,false,false,false,false,false,false,false,false,false,false,false,false,false,false,false,false,false,false,false,false,false,false] rfl rfl (any_of HT_.out (by kernel_rfl)) (fun _ _ _ h => h) (Or.inl ⟨by rfl,?_⟩) ?_ ?_
                rotate_left
                ·intro w'
                 go_simp
                 with_reducible rfl
                rotate_left
                ·simp only [Act.put,List.setIfInBounds_toArray,List.set_cons_zero,List.set_cons_succ,i64_w,i32_w,IntKind.wrap_u8]
                 rfl
                refine pure_ (i:=4) (N:=some 81) (v:=?_) (a':=?_) #[true,true,true,true,true,false,false,false,false,false,false,false,false,false,false,false,false,false,false,false,false,false,false,false,false,false,false,false,false,false,false,false,false,false,false,false,false,false,false,false,false,false,false,false,false,false,false,false] rfl rfl (any_of HT_.out (by kernel_rfl)) (fun _ _ _ h => h) (Or.inl ⟨by rfl,?_⟩) ?_ ?_
                rotate_left
                ·intro w'
                 go_simp
                 with_reducible rfl
                rotate_left
                ·simp only [Act.put,List.setIfInBounds_toArray,List.set_cons_zero,List.set_cons_succ,i64_w,i32_w,IntKind.wrap_u8]
                 rfl
                refine pure_ (i:=5) (N:=some 82) (v:=?_) (a':=?_) #[true,true,true,true,true,true,false,false,false,false,false,false,false,false,false,false,false,false,false,false,false,false,false,false,false,false,false,false,false,false,false,false,false,false,false,false,false,false,false,false,false,false,false,false,false,false,false,false] rfl rfl (any_of HT_.out (by kernel_rfl)) (fun _ _ _ h => h) (Or.inl ⟨by rfl,?_⟩) ?_ ?_
                rotate_left
                ·intro w'
                 go_simp
                 with_reducible rfl
                rotate_left
                ·simp only [Act.put,List.setIfInBounds_toArray,List.set_cons_zero,List.set_cons_succ,i64_w,i32_w,IntKind.wrap_u8]
                 rfl
                refine pure_ (i:=6) (N:=some 83) (v:=?_) (a':=?_) #[true,true,true,true,true,true,true,false,false,false,false,false,false,false,false,false,false,false,false,false,false,false,false,false,false,false,false,false,false,false,false,false,false,false,false,false,false,false,false,false,false,false,false,false,false,false,false,false] rfl rfl (any_of HT_.out (by kernel_rfl)) (fun _ _ _ h => h) (Or.inl ⟨by rfl,?_⟩) ?_ ?_
                rotate_left
                ·intro w'
                 go_simp
                 with_reducible rfl
                rotate_left
                ·simp only [Act.put,List.setIfInBounds_toArray,List.set_cons_zero,List.set_cons_succ,i64_w,i32_w,IntKind.wrap_u8]
                 rfl
                refine pure_ (i:=7) (N:=some 84) (v:=?_) (a':=?_) #[true,true,true,true,true,true,true,true,false,false,false,false,false,false,false,false,false,false,false,false,false,false,false,false,false,false,false,false,false,false,false,false,false,false,false,false,false,false,false,false,false,false,false,false,false,false,false,false] rfl rfl (any_of HT_.out (by kernel_rfl)) (fun _ _ _ h => h) (Or.inl ⟨by rfl,?_⟩) ?_ ?_
                rotate_left
                ·intro w'
                 go_simp
                 with_reducible rfl
                rotate_left
                ·simp only [Act.put,List.setIfInBounds_toArray,List.set_cons_zero,List.set_cons_succ,i64_w,i32_w,IntKind.wrap_u8]
                 rfl
                refine pure_ (i:=8) (N:=some 85) (v:=?_) (a':=?_) #[true,true,true,true,true,true,true,true,true,false,false,false,false,false,false,false,false,false,false,false,false,false,false,false,false,false,false,false,false,false,false,false,false,false,false,false,false,false,false,false,false,false,false,false,false,false,false,false] rfl rfl (any_of HT_.out (by kernel_rfl)) (fun _ _ _ h => h) (Or.inl ⟨by rfl,?_⟩) ?_ ?_
                rotate_left
                ·intro w'
                 go_simp
                 with_reducible rfl
                rotate_left
                ·simp only [Act.put,List.setIfInBounds_toArray,List.set_cons_zero,List.set_cons_succ,i64_w,i32_w,IntKind.wrap_u8]
                 rfl
                refine pure_ (i:=9) (N:=some 86) (v:=?_) (a':=?_) #[true,true,true,true,true,true,true,true,true,true,false,false,false,false,false,false,false,false,false,false,false,false,false,false,false,false,false,false,false,false,false,false,false,false,false,false,false,false,false,false,false,false,false,false,false,false,false,false] rfl rfl (any_of HT_.out (by kernel_rfl)) (fun _ _ _ h => h) (Or.inl ⟨by rfl,?_⟩) ?_ ?_
                rotate_left
                ·intro w'
                 go_simp
                 with_reducible rfl
                rotate_left
                ·simp only [Act.put,List.setIfInBounds_toArray,List.set_cons_zero,List.set_cons_succ,i64_w,i32_w,IntKind.wrap_u8]
                 rfl
                refine pure_ (i:=10) (N:=some 87) (v:=?_) (a':=?_) #[true,true,true,true,true,true,true,true,true,true,true,false,false,false,false,false,false,false,false,false,false,false,false,false,false,false,false,false,false,false,false,false,false,false,false,false,false,false,false,false,false,false,false,false,false,false,false,false] rfl rfl (any_of HT_.out (by kernel_rfl)) (fun _ _ _ h => h) (Or.inl ⟨by rfl,?_⟩) ?_ ?_
                rotate_left
                ·intro w'
                 go_simp
                 with_reducible rfl
                rotate_left
                ·simp only [Act.put,List.setIfInBounds_toArray,List.set_cons_zero,List.set_cons_succ,i64_w,i32_w,IntKind.wrap_u8]
                 rfl
                refine pure_ (i:=11) (N:=some 88) (v:=?_) (a':=?_) #[true,true,true,true,true,true,true,true,true,true,true,true,false,false,false,false,false,false,false,false,false,false,false,false,false,false,false,false,false,false,false,false,false,false,false,false,false,false,false,false,false,false,false,false,false,false,false,false] rfl rfl (any_of HT_.out (by kernel_rfl)) (fun _ _ _ h => h) (Or.inl ⟨by rfl,?_⟩) ?_ ?_
                rotate_left
                ·intro w'
                 go_simp
                 with_reducible rfl
                rotate_left
                ·simp only [Act.put,List.setIfInBounds_toArray,List.set_cons_zero,List.set_cons_succ,i64_w,i32_w,IntKind.wrap_u8]
                 rfl
                refine pure_ (i:=12) (N:=some 89) (v:=?_) (a':=?_) #[true,true,true,true,true,true,true,true,true,true,true,true,true,false,false,false,false,false,false,false,false,false,false,false,false,false,false,false,false,false,false,false,false,false,false,false,false,false,false,false,false,false,false,false,false,false,false,false] rfl rfl (any_of HT_.out (by kernel_rfl)) (fun _ _ _ h => h) (Or.inl ⟨by rfl,?_⟩) ?_ ?_
                rotate_left
                ·intro w'
                 go_simp
                 with_reducible rfl
                rotate_left
                ·simp only [Act.put,List.setIfInBounds_toArray,List.set_cons_zero,List.set_cons_succ,i64_w,i32_w,IntKind.wrap_u8]
                 rfl
                refine pure_ (i:=13) (N:=some 90) (v:=?_) (a':=?_) #[true,true,true,true,true,true,true,true,true,true,true,true,true,true,false,false,false,false,false,false,false,false,false,false,false,false,false,false,false,false,false,false,false,false,false,false,false,false,false,false,false,false,false,false,false,false,false,false] rfl rfl (any_of HT_.out (by kernel_rfl)) (fun _ _ _ h => h) (Or.inl ⟨by rfl,?_⟩) ?_ ?_
                rotate_left
                ·intro w'
                 go_simp
                 with_reducible rfl
                rotate_left
                ·simp only [Act.put,List.setIfInBounds_toArray,List.set_cons_zero,List.set_cons_succ,i64_w,i32_w,IntKind.wrap_u8]
                 rfl
                refine pure_ (i:=14) (N:=some 91) (v:=?_) (a':=?_) #[true,true,true,true,true,true,true,true,true,true,true,true,true,true,true,false,false,false,false,false,false,false,false,false,false,false,false,false,false,false,false,false,false,false,false,false,false,false,false,false,false,false,false,false,false,false,false,false] rfl rfl (any_of HT_.out (by kernel_rfl)) (fun _ _ _ h => h) (Or.inl ⟨by rfl,?_⟩) ?_ ?_
                rotate_left
                ·intro w'
                 go_simp
                 with_reducible rfl
                rotate_left
                ·simp only [Act.put,List.setIfInBounds_toArray,List.set_cons_zero,List.set_cons_succ,i64_w,i32_w,IntKind.wrap_u8]
                 rfl
                refine pure_ (i:=15) (N:=some 92) (v:=?_) (a':=?_) #[true,true,true,true,true,true,true,true,true,true,true,true,true,true,true,true,false,false,false,false,false,false,false,false,false,false,false,false,false,false,false,false,false,false,false,false,false,false,false,false,false,false,false,false,false,false,false,false] rfl rfl (any_of HT_.out (by kernel_rfl)) (fun _ _ _ h => h) (Or.inl ⟨by rfl,?_⟩) ?_ ?_
                rotate_left
                ·intro w'
                 go_simp
                 with_reducible rfl
                rotate_left
                ·simp only [Act.put,List.setIfInBounds_toArray,List.set_cons_zero,List.set_cons_succ,i64_w,i32_w,IntKind.wrap_u8]
                 rfl
                refine pure_ (i:=16) (N:=some 93) (v:=?_) (a':=?_) #[true,true,true,true,true,true,true,true,true,true,true,true,true,true,true,true,true,false,false,false,false,false,false,false,false,false,false,false,false,false,false,false,false,false,false,false,false,false,false,false,false,false,false,false,false,false,false,false] rfl rfl (any_of HT_.out (by kernel_rfl)) (fun _ _ _ h => h) (Or.inl ⟨by rfl,?_⟩) ?_ ?_
                rotate_left
                ·intro w'
                 go_simp
                 with_reducible rfl
                rotate_left
                ·simp only [Act.put,List.setIfInBounds_toArray,List.set_cons_zero,List.set_cons_succ,i64_w,i32_w,IntKind.wrap_u8]
                 rfl
                refine pure_ (i:=17) (N:=some 94) (v:=?_) (a':=?_) #[true,true,true,true,true,true,true,true,true,true,true,true,true,true,true,true,true,true,false,false,false,false,false,false,false,false,false,false,false,false,false,false,false,false,false,false,false,false,false,false,false,false,false,false,false,false,false,false] rfl rfl (any_of HT_.out (by kernel_rfl)) (fun _ _ _ h => h) (Or.inl ⟨by rfl,?_⟩) ?_ ?_
                rotate_left
                ·intro w'
                 go_simp
                 with_reducible rfl
                rotate_left
                ·simp only [Act.put,List.setIfInBounds_toArray,List.set_cons_zero,List.set_cons_succ,i64_w,i32_w,IntKind.wrap_u8]
                 rfl
                refine pure_ (i:=18) (N:=some 95) (v:=?_) (a':=?_) #[true,true,true,true,true,true,true,true,true,true,true,true,true,true,true,true,true,true,true,false,false,false,false,false,false,false,false,false,false,false,false,false,false,false,false,false,false,false,false,false,false,false,false,false,false,false,false,false] rfl rfl (any_of HT_.out (by kernel_rfl)) (fun _ _ _ h => h) (Or.inl ⟨by rfl,?_⟩) ?_ ?_
                rotate_left
                ·intro w'
                 go_simp
                 with_reducible rfl
                rotate_left
                ·simp only [Act.put,List.setIfInBounds_toArray,List.set_cons_zero,List.set_cons_succ,i64_w,i32_w,IntKind.wrap_u8]
                 rfl
                refine pure_ (i:=19) (N:=some 96) (v:=?_) (a':=?_) #[true,true,true,true,true,true,true,true,true,true,true,true,true,true,true,true,true,true,true,true,false,false,false,false,false,false,false,false,false,false,false,false,false,false,false,false,false,false,false,false,false,false,false,false,false,false,false,false] rfl rfl (any_of HT_.out (by kernel_rfl)) (fun _ _ _ h => h) (Or.inl ⟨by rfl,?_⟩) ?_ ?_
                rotate_left
                ·intro w'
                 go_simp
                 with_reducible rfl
                rotate_left
                ·simp only [Act.put,List.setIfInBounds_toArray,List.set_cons_zero,List.set_cons_succ,i64_w,i32_w,IntKind.wrap_u8]
                 rfl
                refine pure_ (i:=20) (N:=some 97) (v:=?_) (a':=?_) #[true,true,true,true,true,true,true,true,true,true,true,true,true,true,true,true,true,true,true,true,true,false,false,false,false,false,false,false,false,false,false,false,false,false,false,false,false,false,false,false,false,false,false,false,false,false,false,false] rfl rfl (any_of HT_.out (by kernel_rfl)) (fun _ _ _ h => h) (Or.inl ⟨by rfl,?_⟩) ?_ ?_
                rotate_left
                ·intro w'
                 go_simp
                 with_reducible rfl
                rotate_left
                ·simp only [Act.put,List.setIfInBounds_toArray,List.set_cons_zero,List.set_cons_succ,i64_w,i32_w,IntKind.wrap_u8]
                 rfl
                refine pure_ (i:=21) (N:=some 98) (v:=?_) (a':=?_) #[true,true,true,true,true,true,true,true,true,true,true,true,true,true,true,true,true,true,true,true,true,true,false,false,false,false,false,false,false,false,false,false,false,false,false,false,false,false,false,false,false,false,false,false,false,false,false,false] rfl rfl (any_of HT_.out (by kernel_rfl)) (fun _ _ _ h => h) (Or.inl ⟨by rfl,?_⟩) ?_ ?_
                rotate_left
                ·intro w'
                 go_simp
                 with_reducible rfl
                rotate_left
                ·simp only [Act.put,List.setIfInBounds_toArray,List.set_cons_zero,List.set_cons_succ,i64_w,i32_w,IntKind.wrap_u8]
                 rfl
                refine pure_ (i:=22) (N:=some 99) (v:=?_) (a':=?_) #[true,true,true,true,true,true,true,true,true,true,true,true,true,true,true,true,true,true,true,true,true,true,true,false,false,false,false,false,false,false,false,false,false,false,false,false,false,false,false,false,false,false,false,false,false,false,false,false] rfl rfl (any_of HT_.out (by kernel_rfl)) (fun _ _ _ h => h) (Or.inl ⟨by rfl,?_⟩) ?_ ?_
                rotate_left
                ·intro w'
                 go_simp
                 with_reducible rfl
                rotate_left
                ·simp only [Act.put,List.setIfInBounds_toArray,List.set_cons_zero,List.set_cons_succ,i64_w,i32_w,IntKind.wrap_u8]
                 rfl
                refine pure_ (i:=23) (N:=some 100) (v:=?_) (a':=?_) #[true,true,true,true,true,true,true,true,true,true,true,true,true,true,true,true,true,true,true,true,true,true,true,true,false,false,false,false,false,false,false,false,false,false,false,false,false,false,false,false,false,false,false,false,false,false,false,false] rfl rfl (any_of HT_.out (by kernel_rfl)) (fun _ _ _ h => h) (Or.inl ⟨by rfl,?_⟩) ?_ ?_
                rotate_left
                ·intro w'
                 go_simp
                 with_reducible rfl
                rotate_left
                ·simp only [Act.put,List.setIfInBounds_toArray,List.set_cons_zero,List.set_cons_succ,i64_w,i32_w,IntKind.wrap_u8]
                 rfl
                refine pure_ (i:=24) (N:=some 101) (v:=?_) (a':=?_) #[true,true,true,true,true,true,true,true,true,true,true,true,true,true,true,true,true,true,true,true,true,true,true,true,true,false,false,false,false,false,false,false,false,false,false,false,false,false,false,false,false,false,false,false,false,false,false,false] rfl rfl (any_of HT_.out (by kernel_rfl)) (fun _ _ _ h => h) (Or.inl ⟨by rfl,?_⟩) ?_ ?_
                rotate_left
                ·intro w'
                 go_simp
                 with_reducible rfl
                rotate_left
                ·simp only [Act.put,List.setIfInBounds_toArray,List.set_cons_zero,List.set_cons_succ,i64_w,i32_w,IntKind.wrap_u8]
                 rfl
                refine pure_ (i:=25) (N:=some 102) (v:=?_) (a':=?_) #[true,true,true,true,true,true,true,true,true,true,true,true,true,true,true,true,true,true,true,true,true,true,true,true,true,true,false,false,false,false,false,false,false,false,false,false,false,false,false,false,false,false,false,false,false,false,false,false] rfl rfl (any_of HT_.out (by kernel_rfl)) (fun _ _ _ h => h) (Or.inl ⟨by rfl,?_⟩) ?_ ?_
                rotate_left
                ·intro w'
                 go_simp
                 with_reducible rfl
                rotate_left
                ·simp only [Act.put,List.setIfInBounds_toArray,List.set_cons_zero,List.set_cons_succ,i64_w,i32_w,IntKind.wrap_u8]
                 rfl
                refine pure_ (i:=26) (N:=some 103) (v:=?_) (a':=?_) #[true,true,true,true,true,true,true,true,true,true,true,true,true,true,true,true,true,true,true,true,true,true,true,true,true,true,true,false,false,false,false,false,false,false,false,false,false,false,false,false,false,false,false,false,false,false,false,false] rfl rfl (any_of HT_.out (by kernel_rfl)) (fun _ _ _ h => h) (Or.inl ⟨by rfl,?_⟩) ?_ ?_
                rotate_left
                ·intro w'
                 go_simp
                 with_reducible rfl
                rotate_left
                ·simp only [Act.put,List.setIfInBounds_toArray,List.set_cons_zero,List.set_cons_succ,i64_w,i32_w,IntKind.wrap_u8]
                 rfl
                refine pure_ (i:=27) (N:=some 104) (v:=?_) (a':=?_) #[true,true,true,true,true,true,true,true,true,true,true,true,true,true,true,true,true,true,true,true,true,true,true,true,true,true,true,true,false,false,false,false,false,false,false,false,false,false,false,false,false,false,false,false,false,false,false,false] rfl rfl (any_of HT_.out (by kernel_rfl)) (fun _ _ _ h => h) (Or.inl ⟨by rfl,?_⟩) ?_ ?_
                rotate_left
                ·intro w'
                 go_simp
                 with_reducible rfl
                rotate_left
                ·simp only [Act.put,List.setIfInBounds_toArray,List.set_cons_zero,List.set_cons_succ,i64_w,i32_w,IntKind.wrap_u8]
                 rfl
                refine take_ (i:=28) (N:=some 105) (v:=?_) (a':=?_) #[true,true,true,true,true,true,true,true,true,true,true,true,true,true,true,true,true,true,true,true,true,true,true,true,true,true,true,true,true,false,false,false,false,false,false,false,false,false,false,false,false,false,false,false,false,false,false,false] rfl rfl (take_ofW HT_.out HW_.out (by kernel_rfl)) (fun _ _ _ h => h) (Or.inl ⟨by rfl,?_⟩) hHeld ?_ ?_
                rotate_left
                ·rintro w' ⟨s0,s1⟩
                 go_simp
                 with_reducible rfl
                rotate_left
                ·simp only [Act.put,List.setIfInBounds_toArray,List.set_cons_zero,List.set_cons_succ,i64_w,i32_w,IntKind.wrap_u8]
                 rfl
                refine pure_ (i:=29) (N:=some 106) (v:=?_) (a':=?_) #[true,true,true,true,true,true,true,true,true,true,true,true,true,true,true,true,true,true,true,true,true,true,true,true,true,true,true,true,true,true,false,false,false,false,false,false,false,false,false,false,false,false,false,false,false,false,false,false] rfl rfl (any_of HT_.out (by kernel_rfl)) (fun _ _ _ h => h) (Or.inl ⟨by rfl,?_⟩) ?_ ?_
                rotate_left
                ·intro w'
                 go_simp
                 with_reducible rfl
                rotate_left
                ·simp only [Act.put,List.setIfInBounds_toArray,List.set_cons_zero,List.set_cons_succ,i64_w,i32_w,IntKind.wrap_u8]
                 rfl
                refine pure_ (i:=30) (N:=some 107) (v:=?_) (a':=?_) #[true,true,true,true,true,true,true,true,true,true,true,true,true,true,true,true,true,true,true,true,true,true,true,true,true,true,true,true,true,true,true,false,false,false,false,false,false,false,false,false,false,false,false,false,false,false,false,false] rfl rfl (any_of HT_.out (by kernel_rfl)) (fun _ _ _ h => h) (Or.inl ⟨by rfl,?_⟩) ?_ ?_
                rotate_left
                ·intro w'
                 go_simp
                 with_reducible rfl
                rotate_left
                ·simp only [Act.put,List.setIfInBounds_toArray,List.set_cons_zero,List.set_cons_succ,i64_w,i32_w,IntKind.wrap_u8]
                 rfl
                refine pure_ (i:=31) (N:=some 108) (v:=?_) (a':=?_) #[true,true,true,true,true,true,true,true,true,true,true,true,true,true,true,true,true,true,true,true,true,true,true,true,true,true,true,true,true,true,true,true,false,false,false,false,false,false,false,false,false,false,false,false,false,false,false,false] rfl rfl (any_of HT_.out (by kernel_rfl)) (fun _ _ _ h => h) (Or.inl ⟨by rfl,?_⟩) ?_ ?_
                rotate_left
                ·intro w'
                 go_simp
                 with_reducible rfl
                rotate_left
                ·simp only [Act.put,List.setIfInBounds_toArray,List.set_cons_zero,List.set_cons_succ,i64_w,i32_w,IntKind.wrap_u8]
                 rfl
                refine pure_ (i:=32) (N:=some 109) (v:=?_) (a':=?_) #[true,true,true,true,true,true,true,true,true,true,true,true,true,true,true,true,true,true,true,true,true,true,true,true,true,true,true,true,true,true,true,true,true,false,false,false,false,false,false,false,false,false,false,false,false,false,false,false] rfl rfl (any_of HT_.out (by kernel_rfl)) (fun _ _ _ h => h) (Or.inl ⟨by rfl,?_⟩) ?_ ?_
                rotate_left
                ·intro w'
                 go_simp
                 with_reducible rfl
                rotate_left
                ·simp only [Act.put,List.setIfInBounds_toArray,List.set_cons_zero,List.set_cons_succ,i64_w,i32_w,IntKind.wrap_u8]
                 rfl
                refine pure_ (i:=33) (N:=some 110) (v:=?_) (a':=?_) #[true,true,true,true,true,true,true,true,true,true,true,true,true,true,true,true,true,true,true,true,true,true,true,true,true,true,true,true,true,true,true,true,true,true,false,false,false,false,false,false,false,false,false,false,false,false,false,false] rfl rfl (any_of HT_.out (by kernel_rfl)) (fun _ _ _ h => h) (Or.inl ⟨by rfl,?_⟩) ?_ ?_
                rotate_left
                ·intro w'
                 go_simp
                 with_reducible rfl
                rotate_left
                ·simp only [Act.put,List.setIfInBounds_toArray,List.set_cons_zero,List.set_cons_succ,i64_w,i32_w,IntKind.wrap_u8]
                 rfl
                refine pure_ (i:=34) (N:=some 111) (v:=?_) (a':=?_) #[true,true,true,true,true,true,true,true,true,true,true,true,true,true,true,true,true,true,true,true,true,true,true,true,true,true,true,true,true,true,true,true,true,true,true,false,false,false,false,false,false,false,false,false,false,false,false,false] rfl rfl (any_of HT_.out (by kernel_rfl)) (fun _ _ _ h => h) (Or.inl ⟨by rfl,?_⟩) ?_ ?_
                rotate_left
                ·intro w'
                 go_simp
                 with_reducible rfl
                rotate_left
                ·simp only [Act.put,List.setIfInBounds_toArray,List.set_cons_zero,List.set_cons_succ,i64_w,i32_w,IntKind.wrap_u8]
                 rfl
                refine pure_ (i:=35) (N:=some 112) (v:=?_) (a':=?_) #[true,true,true,true,true,true,true,true,true,true,true,true,true,true,true,true,true,true,true,true,true,true,true,true,true,true,true,true,true,true,true,true,true,true,true,true,false,false,false,false,false,false,false,false,false,false,false,false] rfl rfl (any_of HT_.out (by kernel_rfl)) (fun _ _ _ h => h) (Or.inl ⟨by rfl,?_⟩) ?_ ?_
                rotate_left
                ·intro w'
                 go_simp
                 with_reducible rfl
                rotate_left
                ·simp only [Act.put,List.setIfInBounds_toArray,List.set_cons_zero,List.set_cons_succ,i64_w,i32_w,IntKind.wrap_u8]
                 rfl
                refine pure_ (i:=36) (N:=some 113) (v:=?_) (a':=?_) #[true,true,true,true,true,true,true,true,true,true,true,true,true,true,true,true,true,true,true,true,true,true,true,true,true,true,true,true,true,true,true,true,true,true,true,true,true,false,false,false,false,false,false,false,false,false,false,false] rfl rfl (any_of HT_.out (by kernel_rfl)) (fun _ _ _ h => h) (Or.inl ⟨by rfl,?_⟩) ?_ ?_
                rotate_left
                ·intro w'
                 go_simp
                 with_reducible rfl
                rotate_left
                ·simp only [Act.put,List.setIfInBounds_toArray,List.set_cons_zero,List.set_cons_succ,i64_w,i32_w,IntKind.wrap_u8]
                 rfl
                refine pure_ (i:=37) (N:=some 114) (v:=?_) (a':=?_) #[true,true,true,true,true,true,true,true,true,true,true,true,true,true,true,true,true,true,true,true,true,true,true,true,true,true,true,true,true,true,true,true,true,true,true,true,true,true,false,false,false,false,false,false,false,false,false,false] rfl rfl (any_of HT_.out (by kernel_rfl)) (fun _ _ _ h => h) (Or.inl ⟨by rfl,?_⟩) ?_ ?_
                rotate_left
                ·intro w'
                 go_simp
                 with_reducible rfl
                rotate_left
                ·simp only [Act.put,List.setIfInBounds_toArray,List.set_cons_zero,List.set_cons_succ,i64_w,i32_w,IntKind.wrap_u8]
                 rfl
                refine pure_ (i:=38) (N:=some 115) (v:=?_) (a':=?_) #[true,true,true,true,true,true,true,true,true,true,true,true,true,true,true,true,true,true,true,true,true,true,true,true,true,true,true,true,true,true,true,true,true,true,true,true,true,true,true,false,false,false,false,false,false,false,false,false] rfl rfl (any_of HT_.out (by kernel_rfl)) (fun _ _ _ h => h) (Or.inl ⟨by rfl,?_⟩) ?_ ?_
                rotate_left
                ·intro w'
                 go_simp
                 with_reducible rfl
                rotate_left
                ·simp only [Act.put,List.setIfInBounds_toArray,List.set_cons_zero,List.set_cons_succ,i64_w,i32_w,IntKind.wrap_u8]
                 rfl
                refine pure_ (i:=39) (N:=some 116) (v:=?_) (a':=?_) #[true,true,true,true,true,true,true,true,true,true,true,true,true,true,true,true,true,true,true,true,true,true,true,true,true,true,true,true,true,true,true,true,true,true,true,true,true,true,true,true,false,false,false,false,false,false,false,false] rfl rfl (any_of HT_.out (by kernel_rfl)) (fun _ _ _ h => h) (Or.inl ⟨by rfl,?_⟩) ?_ ?_
                rotate_left
                ·intro w'
                 go_simp
                 with_reducible rfl
                rotate_left
                ·simp only [Act.put,List.setIfInBounds_toArray,List.set_cons_zero,List.set_cons_succ,i64_w,i32_w,IntKind.wrap_u8]
                 rfl
                refine pure_ (i:=40) (N:=some 117) (v:=?_) (a':=?_) #[true,true,true,true,true,true,true,true,true,true,true,true,true,true,true,true,true,true,true,true,true,true,true,true,true,true,true,true,true,true,true,true,true,true,true,true,true,true,true,true,true,false,false,false,false,false,false,false] rfl rfl (any_of HT_.out (by kernel_rfl)) (fun _ _ _ h => h) (Or.inl ⟨by rfl,?_⟩) ?_ ?_
                rotate_left
                ·intro w'
                 go_simp
                 with_reducible rfl
                rotate_left
                ·simp only [Act.put,List.setIfInBounds_toArray,List.set_cons_zero,List.set_cons_succ,i64_w,i32_w,IntKind.wrap_u8]
                 rfl
                refine take_ (i:=41) (N:=some 118) (v:=?_) (a':=?_) #[true,true,true,true,true,true,true,true,true,true,true,true,true,true,true,true,true,true,true,true,true,true,true,true,true,true,true,true,true,true,true,true,true,true,true,true,true,true,true,true,true,true,false,false,false,false,false,false] rfl rfl (take_ofW HT_.out HW_.out (by kernel_rfl)) (fun _ _ _ h => h) (Or.inl ⟨by rfl,?_⟩) hHeld ?_ ?_
                rotate_left
                ·rintro w' ⟨s0,s1⟩
                 go_simp
                 with_reducible rfl
                rotate_left
                ·simp only [Act.put,List.setIfInBounds_toArray,List.set_cons_zero,List.set_cons_succ,i64_w,i32_w,IntKind.wrap_u8]
                 rfl
                refine take_ (i:=43) (N:=some 120) (v:=?_) (a':=?_) #[true,true,true,true,true,true,true,true,true,true,true,true,true,true,true,true,true,true,true,true,true,true,true,true,true,true,true,true,true,true,true,true,true,true,true,true,true,true,true,true,true,true,false,true,false,false,false,false] rfl rfl (take_ofW HT_.out HW_.out (by kernel_rfl)) (fun _ _ _ h => h) (Or.inl ⟨by rfl,?_⟩) hHeld ?_ ?_
                rotate_left
                ·rintro w' ⟨s0,s1⟩
                 go_simp
                 with_reducible rfl
                rotate_left
                ·simp only [Act.put,List.setIfInBounds_toArray,List.set_cons_zero,List.set_cons_succ,i64_w,i32_w,IntKind.wrap_u8]
                 rfl
                refine one_ (i:=42) (N:=some 119) #[true,true,true,true,true,true,true,true,true,true,true,true,true,true,true,true,true,true,true,true,true,true,true,true,true,true,true,true,true,true,true,true,true,true,true,true,true,true,true,true,true,true,true,true,false,false,false,false] rfl rfl (one_of HT_.out (by kernel_rfl)) (by decide) (fun K hK => ?_)
                refine goes_ Try.func14 (by kernel_rfl) rfl #[.agg #[.slice Ao82 t362.length co82]] (by rfl) rfl rfl zq_ ?_
                with_reducible refine (impl_ExprOk.calls k _ _ t362 t367 _ ?side1 ?side2 A27.out).mono ?_
                (case side1 => repeat (first|exact (Kd.N_reads' HO364.out).2.2|(with_reducible refine Kd.C_alloc ?_ _)|(with_reducible refine Kd.C_drewN ?_ _)|(with_reducible refine Kd.C_drew ?_)))
                (case side2 => exact (Kd.N_reads' HO364.out).2.1)
                rintro e w88 ⟨rfl,hb⟩
                have HS1_:=(hb.cell (zb_ _ _ (hHeld.2))).trans (hHeld.2)
                refine ⟨_,rfl,?_⟩
                have n0_:=zm_ (Kd.R_below zt9_1 hb)
                have n1_:=zm_ (Kd.N_below zt9_7 hb)
                have n2_:=zm_ (Kd.R_below zt9_2 hb)
                have n3_:=zm_ (Kd.N_below zt9_8 hb)
                have n4_:=zm_ (Kd.R_below zt9_6 hb)
                have n5_:=zm_ (Kd.N_below zt9_10 hb)
                have n6_:=zm_ (Kd.R_below zt9_9 hb)
                have n7_:=zm_ (Kd.N_below zt9_13 hb)
                have n8_:=zm_ (Kd.R_below zt9_11 hb)
                have n9_:=zm_ (Kd.N_below zt9_15 hb)
                have n10_:=zm_ (Kd.N_below zt9_16 hb)
                have n11_:=zm_ (Kd.R_below zt9_17 hb)
                have n12_:=zm_ (Kd.N_below (by (with_reducible repeat (first|apply Kd.N_alloc|apply Kd.N_drewN|apply Kd.N_drew));exact HO364.out) hb)
                have n13_:=zm_ (blk_below (g:=gb309) (o:=.cells #[.slice Ao32 t306.length co32] 28 (0,0)) zt9_3 hb)
                have n14_:=zm_ (blk_below (g:=gb341) (o:=.cells #[.slice Ao74 y354.length co74] 28 (0,0)) zt9_12 hb)
                have n15_:=zm_ (blk_below (g:=gb365) (o:=.cells #[.slice Ao82 t362.length co82] 28 (0,0)) (by (with_reducible repeat first|refine zl_ ?_ _|refine zr_ ?_|refine zk_ ?_ _);exact BK365.out) hb)
                have n16_:=zm_ (below_step (by repeat (first|(with_reducible first|exact HB.out|apply za_|apply zn_|apply zd_|refine zs_ ?_ GE309.out|refine zs_ ?_ GE341.out|refine zs_ ?_ GE365.out)|exact HB.out)) hb)
                clear HO305
                clear HO308
                clear HO312
                clear HO318
                clear HO321
                clear HO326
                clear HO329
                clear HO334
                clear HO337
                clear HO353
                clear HO356
                clear HO359
                clear HO364
                clear BK309
                clear BK341
                clear BK365
                clear HB
                have HO305:=n0_
                have HO308:=n1_
                have HO312:=n2_
                have HO318:=n3_
                have HO321:=n4_
                have HO326:=n5_
                have HO329:=n6_
                have HO334:=n7_
                have HO337:=n8_
                have HO353:=n9_
                have HO356:=n10_
                have HO359:=n11_
                have HO364:=n12_
                have BK309:=n13_
                have BK341:=n14_
                have BK365:=n15_
                have HB:=n16_
                clear n0_ n1_ n2_ n3_ n4_ n5_ n6_ n7_ n8_ n9_ n10_ n11_ n12_ n13_ n14_ n15_ n16_
                (try clear hb)
                (try clear hb2)
                (try clear hk)
                (try clear hi)
                refine hK.out _ _ ⟨(zc_ BK365.out 0).trans rfl,HS1_⟩ (fun hHeld => ?_)
                clear hK K
                refine norm_ (a':=?_) ?_ ?_
                rotate_left
                ·show Act.put _ (some 119) _ = _
                 simp only [Act.put,List.setIfInBounds_toArray,List.set_cons_zero,List.set_cons_succ,i64_w,i32_w,IntKind.wrap_u8]
                 rfl
                refine one_ (i:=44) (N:=some 121) #[true,true,true,true,true,true,true,true,true,true,true,true,true,true,true,true,true,true,true,true,true,true,true,true,true,true,true,true,true,true,true,true,true,true,true,true,true,true,true,true,true,true,true,true,true,false,false,false] rfl rfl (one_of HT_.out (by kernel_rfl)) (by decide) (fun K hK => ?_)
                refine goes_ Try.func15 (by kernel_rfl) rfl #[.agg #[.slice Ao82 t362.length co82]] (by rfl) rfl rfl zq_ ?_
                with_reducible refine (spec_ExprOk.calls k _ _ t362 t368 _ ?side1 ?side2 A28.out).mono ?_
                (case side1 => repeat (first|exact (Kd.N_reads' HO364.out).2.2|(with_reducible refine Kd.C_alloc ?_ _)|(with_reducible refine Kd.C_drewN ?_ _)|(with_reducible refine Kd.C_drew ?_)))
                (case side2 => exact (Kd.N_reads' HO364.out).2.1)
                rintro e w89 ⟨rfl,hb⟩
                have HS1_:=(hb.cell (zb_ _ _ (hHeld.2))).trans (hHeld.2)
                refine ⟨_,rfl,?_⟩
                have n0_:=zm_ (Kd.R_below zt9_1 hb)
                have n1_:=zm_ (Kd.N_below zt9_7 hb)
                have n2_:=zm_ (Kd.R_below zt9_2 hb)
                have n3_:=zm_ (Kd.N_below zt9_8 hb)
                have n4_:=zm_ (Kd.R_below zt9_6 hb)
                have n5_:=zm_ (Kd.N_below zt9_10 hb)
                have n6_:=zm_ (Kd.R_below zt9_9 hb)
                have n7_:=zm_ (Kd.N_below zt9_13 hb)
                have n8_:=zm_ (Kd.R_below zt9_11 hb)
                have n9_:=zm_ (Kd.N_below zt9_15 hb)
                have n10_:=zm_ (Kd.N_below zt9_16 hb)
                have n11_:=zm_ (Kd.R_below zt9_17 hb)
                have n12_:=zm_ (Kd.N_below (by (with_reducible repeat (first|apply Kd.N_alloc|apply Kd.N_drewN|apply Kd.N_drew));exact HO364.out) hb)
                have n13_:=zm_ (blk_below (g:=gb309) (o:=.cells #[.slice Ao32 t306.length co32] 28 (0,0)) zt9_3 hb)
                have n14_:=zm_ (blk_below (g:=gb341) (o:=.cells #[.slice Ao74 y354.length co74] 28 (0,0)) zt9_12 hb)
                have n15_:=zm_ (blk_below (g:=gb365) (o:=.cells #[.slice Ao82 t362.length co82] 28 (0,0)) (by (with_reducible repeat first|refine zl_ ?_ _|refine zr_ ?_|refine zk_ ?_ _);exact BK365.out) hb)
                have n16_:=zm_ (below_step (by repeat (first|(with_reducible first|exact HB.out|apply za_|apply zn_|apply zd_|refine zs_ ?_ GE309.out|refine zs_ ?_ GE341.out|refine zs_ ?_ GE365.out)|exact HB.out)) hb)
                clear HO305
                clear HO308
                clear HO312
                clear HO318
                clear HO321
                clear HO326
                clear HO329
                clear HO334
                clear HO337
                clear HO353
                clear HO356
                clear HO359
                clear HO364
                clear BK309
                clear BK341
                clear BK365
                clear HB
                have HO305:=n0_
                have HO308:=n1_
                have HO312:=n2_
                have HO318:=n3_
                have HO321:=n4_
                have HO326:=n5_
                have HO329:=n6_
                have HO334:=n7_
                have HO337:=n8_
                have HO353:=n9_
                have HO356:=n10_
                have HO359:=n11_
                have HO364:=n12_
                have BK309:=n13_
                have BK341:=n14_
                have BK365:=n15_
                have HB:=n16_
                clear n0_ n1_ n2_ n3_ n4_ n5_ n6_ n7_ n8_ n9_ n10_ n11_ n12_ n13_ n14_ n15_ n16_
                (try clear hb)
                (try clear hb2)
                (try clear hk)
                (try clear hi)
                refine hK.out _ _ ⟨(zc_ BK365.out 0).trans rfl,HS1_⟩ (fun hHeld => ?_)
                clear hK K
                refine norm_ (a':=?_) ?_ ?_
                rotate_left
                ·show Act.put _ (some 121) _ = _
                 simp only [Act.put,List.setIfInBounds_toArray,List.set_cons_zero,List.set_cons_succ,i64_w,i32_w,IntKind.wrap_u8]
                 rfl
                refine pure_ (i:=45) (N:=some 122) (v:=?_) (a':=?_) #[true,true,true,true,true,true,true,true,true,true,true,true,true,true,true,true,true,true,true,true,true,true,true,true,true,true,true,true,true,true,true,true,true,true,true,true,true,true,true,true,true,true,true,true,true,true,false,false] rfl rfl (any_of HT_.out (by kernel_rfl)) (fun _ _ _ h => h) (Or.inl ⟨by rfl,?_⟩) ?_ ?_
                rotate_left
                ·intro w'
                 go_simp
                 with_reducible rfl
                rotate_left
                ·simp only [Act.put,List.setIfInBounds_toArray,List.set_cons_zero,List.set_cons_succ,i64_w,i32_w,IntKind.wrap_u8]
                 rfl
                refine pure_ (i:=46) (N:=some 123) (v:=?_) (a':=?_) #[true,true,true,true,true,true,true,true,true,true,true,true,true,true,true,true,true,true,true,true,true,true,true,true,true,true,true,true,true,true,true,true,true,true,true,true,true,true,true,true,true,true,true,true,true,true,true,false] rfl rfl (any_of HT_.out (by kernel_rfl)) (fun _ _ _ h => h) (Or.inl ⟨by rfl,?_⟩) ?_ ?_
                rotate_left
                ·intro w'
                 go_simp
                 with_reducible rfl
                rotate_left
                ·simp only [Act.put,List.setIfInBounds_toArray,List.set_cons_zero,List.set_cons_succ,i64_w,i32_w,IntKind.wrap_u8]
                 rfl
                refine pure_ (i:=47) (N:=some 2) (v:=?_) (a':=?_) #[true,true,true,true,true,true,true,true,true,true,true,true,true,true,true,true,true,true,true,true,true,true,true,true,true,true,true,true,true,true,true,true,true,true,true,true,true,true,true,true,true,true,true,true,true,true,true,true] rfl rfl (any_of HT_.out (by kernel_rfl)) (fun _ _ _ h => h) (Or.inl ⟨by rfl,?_⟩) ?_ ?_
                rotate_left
                ·intro w'
                 go_simp
                 with_reducible rfl
                rotate_left
                ·simp only [Act.put,List.setIfInBounds_toArray,List.set_cons_zero,List.set_cons_succ,i64_w,i32_w,IntKind.wrap_u8]
                 rfl
                refine done_ (done_of HT_.out (by kernel_rfl)) ?_
                try go_wp2
                go_ret
                exact ⟨zE_,by repeat (first|(with_reducible first|exact HB.out|apply za_|apply zn_|apply zd_|refine zs_ ?_ GE309.out|refine zs_ ?_ GE341.out|refine zs_ ?_ GE365.out)|exact HB.out)⟩
               ·rw [if_neg c26] at H
                have c26b0 : (t360 == 0) = false:=beq_eq_false_iff_ne.mpr c26
                have c26b1 : (t360 != 0) = true:=bne_iff_ne.mpr c26
                exact absurd H (by simp)
             ·rw [if_neg c24] at H
              have c24b0 : (t339 == (Int.tmod (rd t303 1) 12)) = false:=beq_eq_false_iff_ne.mpr c24
              have c24b1 : (t339 != (Int.tmod (rd t303 1) 12)) = true:=bne_iff_ne.mpr c24
              exact absurd H (by simp)
            ·replace c23:=Bool.eq_false_iff.mpr c23
             subst c23
             have H1 : (none) = some r:=by rw [if_neg (show ¬ (false = true) by decide)] at H;exact H
             clear H
             have H:=H1
             clear H1
             exact absurd H (by simp)
           ·rw [if_neg c22] at H
            have c22b0 : (t330 == 0) = false:=beq_eq_false_iff_ne.mpr c22
            have c22b1 : (t330 != 0) = true:=bne_iff_ne.mpr c22
            exact absurd H (by simp)
         ·rw [if_neg c20] at H
          have c20b0 : (t322 == 0) = false:=beq_eq_false_iff_ne.mpr c20
          have c20b1 : (t322 != 0) = true:=bne_iff_ne.mpr c20
          exact absurd H (by simp)
       ·rw [if_neg c18] at H
        have c18b0 : (t313 == 9801) = false:=beq_eq_false_iff_ne.mpr c18
        have c18b1 : (t313 != 9801) = true:=bne_iff_ne.mpr c18
        exact absurd H (by simp)
      ·replace c17:=Bool.eq_false_iff.mpr c17
       subst c17
       have H1 : (none) = some r:=by rw [if_neg (show ¬ (false = true) by decide)] at H;exact H
       clear H
       have H:=H1
       clear H1
       exact absurd H (by simp)
     ·rw [if_neg c14] at H
      exact absurd H (by simp)
    ·rw [if_neg c13] at H
     exact absurd H (by simp)
   ·rw [if_neg c11] at H
    exact absurd H (by simp)
  ·rw [if_neg c7] at H
   exact absurd H (by simp)

/-- THE ONE PURE STATEMENT of laws_FnExprWrong: yours. -/
def laws_FnExprWrong.Pure : Prop:=∀ (l0 : List Int),l0.length ≤ maxLen → l0.length * 1 ≤ 140737488351232 → (∀ x ∈ l0,(Lit.int .u8 x).wf = true) → ∃ k,laws_FnExprWrong.f k l0 = some true
theorem laws_FnExprWrong.walk (P : laws_FnExprWrong.Pure) (a0 : Option Addr) (len0 cap0 : Nat) (z0 : List Int) (w : World) (w0 : (a0 = none ∧ len0 = 0 ∧ cap0 = 0 ∧ z0 = []) ∨ ∃ x,a0 = some x ∧ len0 ≤ cap0 ∧ cap0 ≤ maxLen ∧ z0.length = cap0 ∧ (∀ i,i < z0.length → w.cell? (x.add i) = some (.int .u8 (z0.getD i 0))) ∧ ∀ n ∈ z0,(Lit.int .u8 n).wf = true) (y0 : len0 * 1 ≤ 140737488351232) :
  Calls Try.prog 3 #[.slice a0 len0 cap0] w fun e w' => e = .returned (.bool true) ∧ Below w.heap.size w w':=by
 obtain ⟨l0,rfl,hr0,hm0,hw0,hc0⟩:=ReadsInt.ofRowC w0
 obtain ⟨k,h⟩:=P l0 hm0 y0 hw0
 refine (laws_FnExprWrong.calls k _ _ l0 true w (Kd.C_of_reads (d:=(0 : Int)) (h1:=fun _ => rfl) hr0) hc0 h).mono ?_
 rintro e w' ⟨rfl,hd⟩
 exact ⟨rfl,hd⟩

end Go.Proofs.Ytnmhggdaccbbfaa.MFnExprWrong
