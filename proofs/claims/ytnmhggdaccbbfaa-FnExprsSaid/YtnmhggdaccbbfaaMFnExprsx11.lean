import Derived.Test.YtnmhggdaccbbfaaMFnExprsx0
import Derived.Test.YtnmhggdaccbbfaaMFnExprsx1
import Derived.Test.YtnmhggdaccbbfaaMFnExprsx2
import Derived.Test.YtnmhggdaccbbfaaMFnExprsx4
import Derived.Test.YtnmhggdaccbbfaaMFnExprsx5
import Derived.Test.YtnmhggdaccbbfaaMFnExprsx7
import Derived.Test.YtnmhggdaccbbfaaMFnExprsx9
import Derived.Test.YtnmhggdaccbbfaaMFnExprsx10
namespace Go.Proofs.Ytnmhggdaccbbfaa.MFnExprs
open Go.RowKit Go.Proofs.YtnmhggdaccbbfaaW.PrintWords Go.Proofs.YtnmhggdaccbbfaaW.PrintLast Go.Proofs.YtnmhggdaccbbfaaW.PrintMore
attribute [local go_sem] max2_int min2_int max_two min_two max_three min_three max_four min_four
set_option linter.unusedVariables false
set_option linter.unusedSimpArgs false
theorem zt11_16 {p : Prop} (h : p := by (with_reducible repeat first|refine zl_ ?_ _|refine zr_ ?_|refine zk_ ?_ _);refine blk_put (cs:=#[.slice none 0 0]) ?_ 0 _ rfl;(with_reducible repeat first|refine zl_ ?_ _|refine zr_ ?_|refine zk_ ?_ _);exact BK380.out) : p := h
theorem zt11_15 {p : Prop} (h : p := by rw [hg];exact Nat.ne_of_gt (blk_lt (g:=gb357) (o:=.cells #[.slice (some ad369) l1_0.length c1_0] 28 (0,0)) zt11_2)) : p := h
theorem zt11_14 {p : Prop} (h : p := by rw [hg];exact Nat.ne_of_lt (blk_lt (g:=gb357) (o:=.cells #[.slice (some ad369) l1_0.length c1_0] 28 (0,0)) zt11_2)) : p := h
theorem zt11_13 {p : Prop} (h : p := by (with_reducible repeat (first|apply Kd.R_alloc|apply Kd.R_drewN|apply Kd.R_drew));exact (Kd.R_mono (Kd.R_far (p:=⟨gb380,0,none⟩) (Kd.R_types HO_11.out BK380.out (by decide)) (fun _ hk => hk.2) (.slice (some ad369) y376.length c1_0)) (fun _ h_ => h_.1))) : p := h
theorem zt11_12 {p : Prop} (h : p := by rw [hg];exact Nat.ne_of_gt (blk_lt (g:=gb370) (o:=.cells #[.int .i64 ((rd_T34 l1_0 (ji10)).f0),.int .i64 ((rd_T34 l1_0 (ji10)).f1),.string ((rd_T34 l1_0 (ji10)).f2),.slice (some ad375) ((rd_T34 l1_0 (ji10)).f3).length c369_3] 34 (0,0)) zt11_6)) : p := h
theorem zt11_11 {p : Prop} (h : p := by rw [hg];exact Nat.ne_of_lt (blk_lt (g:=gb370) (o:=.cells #[.int .i64 ((rd_T34 l1_0 (ji10)).f0),.int .i64 ((rd_T34 l1_0 (ji10)).f1),.string ((rd_T34 l1_0 (ji10)).f2),.slice (some ad375) ((rd_T34 l1_0 (ji10)).f3).length c369_3] 34 (0,0)) zt11_6)) : p := h
theorem zt11_10 {p : Prop} (h : p := by (with_reducible repeat (first|apply Kd.R_alloc|apply Kd.R_drewN|apply Kd.R_drew));exact HO_4.out) : p := h
theorem zt11_9 {p : Prop} (h : p := by (with_reducible repeat (first|apply Kd.R_alloc|apply Kd.R_drewN|apply Kd.R_drew));exact HO_11.out) : p := h
theorem zt11_8 {p : Prop} (h : p := by (with_reducible repeat (first|apply Kd.R_alloc|apply Kd.R_drewN|apply Kd.R_drew));exact HO360.out) : p := h
theorem zt11_7 {p : Prop} (h : p := by first|exact Nat.ne_of_lt (Nat.lt_of_lt_of_le (by have:=zb_ _ _ hw375_0;first|rwa [add_block] at this|exact this) GW380.out)|(rw [add_block];exact Nat.ne_of_lt (Nat.lt_of_lt_of_le (by have:=zb_ _ _ hw375_0;first|rwa [add_block] at this|exact this) GW380.out))|(show (Addr.add _ _).block ≠ _;rw [add_block];exact Nat.ne_of_lt (Nat.lt_of_lt_of_le (by have:=zb_ _ _ hw375_0;first|rwa [add_block] at this|exact this) GW380.out))|(dsimp only;exact Nat.ne_of_lt (Nat.lt_of_lt_of_le (by have:=zb_ _ _ hw375_0;first|rwa [add_block] at this|exact this) GW380.out))) : p := h
theorem zt11_6 {p : Prop} (h : p := by (with_reducible repeat first|refine zl_ ?_ _|refine zr_ ?_|refine zk_ ?_ _);exact BK370.out) : p := h
theorem zt11_5 {p : Prop} (h : p := by (with_reducible repeat (first|apply Kd.R_alloc|apply Kd.R_drewN|apply Kd.R_drew));exact (Kd.R_mono (Kd.R_far (p:=⟨gb380,0,none⟩) (Kd.R_types HO_4.out BK380.out (by decide)) (fun _ hk => hk.2) (.slice (some ad369) y376.length c1_0)) (fun _ h_ => h_.1))) : p := h
theorem zt11_4 {p : Prop} (h : p := by repeat (first|(with_reducible first|exact HB.out|apply za_|apply zn_|apply zd_|refine zs_ ?_ GE357.out|refine zs_ ?_ GE370.out|refine zs_ ?_ GE380.out)|exact HB.out)) : p := h
theorem zt11_3 {p : Prop} (h : p := by repeat (first|(with_reducible first|exact HB.out|apply za_|apply zn_|apply zd_|refine zs_ ?_ GE357.out)|exact HB.out)) : p := h
theorem zt11_2 {p : Prop} (h : p := by (with_reducible repeat first|refine zl_ ?_ _|refine zr_ ?_|refine zk_ ?_ _);exact BK357.out) : p := h
theorem zt11_1 {p : Prop} (h : p := by repeat (first|(with_reducible first|exact HB.out|apply za_|apply zn_|apply zd_|refine zs_ ?_ GE357.out|refine zs_ ?_ GE370.out)|exact HB.out)) : p := h

mutual
def laws_FnExprs.j0 : Nat → List (S87) → Int → Int → Bool → Bool → List (S34) → Int → Int → ByteArray → List Int → Option (Bool)
 |0,_,_,_,_,_,_,_,_,_,_ => none
 |k + 1,x4,x5,x6,x7,x63,x358000,x371000,x371001,x371002,x371003 => if x63 = true then (none) else (laws_FnExprs.l0 k x4 x5 x6 x7 (([] : List Int)) 0 x358000 x371000 x371001 x371002 x371003)
def laws_FnExprs.l0 : Nat → List (S87) → Int → Int → Bool → List Int → Int → List (S34) → Int → Int → ByteArray → List Int → Option (Bool)
 |0,_,_,_,_,_,_,_,_,_,_,_ => none
 |k + 1,x4,x5,x6,x7,x11,x12,x358000,x371000,x371001,x371002,x371003 => if x12 < (x371003.length : Int) then (if 0 ≤ x12 then (if 0 ≤ (wrap64 ((rd x371003 x12) + 1)) then (if (wrap64 ((rd x371003 x12) + 1)) ≤ (x358000.length : Int) then ((impl_EvalExpr.f k (x358000.take ((wrap64 ((rd x371003 x12) + 1)) : Int).toNat) x4 x5).bind fun bt381 => (if bt381.2 = true then (if x11.length < 17592186044416 then (laws_FnExprs.l0 k x4 x5 x6 x7 (x11 ++ [bt381.1]) (wrap64 (x12 + 1)) x358000 x371000 x371001 x371002 x371003) else (none)) else (some (!x7)))) else (none)) else (none)) else (none)) else (if x371000 = 1 then (if x7 = true then (some (x6 == x371001)) else (none)) else (if x371000 = 3 then (if x7 = true then (some (x6 == x5)) else (none)) else (if x371000 = 4 then (if x7 = true then (if 0 < (x11.length : Int) then (if 1 < (x11.length : Int) then (some (x6 == (wrap64 ((rd x11 0) + (rd x11 1))))) else (none)) else (none)) else (some true)) else (if x371000 = 5 then (if x7 = true then (if 0 < (x11.length : Int) then (if 1 < (x11.length : Int) then (some (x6 == (wrap64 ((rd x11 0) - (rd x11 1))))) else (none)) else (none)) else (some true)) else (if x371000 = 6 then (if x7 = true then (if 0 < (x11.length : Int) then (if 1 < (x11.length : Int) then (some (x6 == (wrap64 ((rd x11 0) * (rd x11 1))))) else (none)) else (none)) else (some true)) else (if x371000 = 7 then (if 1 < (x11.length : Int) then (if (x7 == ((rd x11 1) != 0)) = true then (if x7 = true then (if 0 < (x11.length : Int) then (if (rd x11 1) = 0 then (none) else (some (x6 == (wrap64 (Int.tdiv (rd x11 0) (rd x11 1)))))) else (none)) else (some true)) else (none)) else (none)) else (if x371000 = 11 then (if x7 = true then (if 0 < (x11.length : Int) then (some ((x6 == 1) == ((rd x11 0) == 0))) else (none)) else (none)) else (if x371000 = 2 then ((spec_EnvGet.f k x4 x371002).bind fun bt396 => (if (x7 == bt396.2) = true then (some (x6 == bt396.1)) else (none))) else (if x7 = true then (if x6 = 0 then (some true) else (some (x6 == 1))) else (none))))))))))
end
def laws_FnExprs.f0 (k : Nat) (l0 : List Int) (l1_0 : List (S34)) : Option (Bool):=(laws_big.f l0).bind fun t356 => (if t356 = true then (some true) else ((spec_DrawEnv.f k l0).bind fun t358 => ((spec_DrawPlaces.f k l0).bind fun t361 => (if 0 < (t361.length : Int) then ((impl_EvalExpr.f k l1_0 t358 (Int.tmod (rd t361 0) 12)).bind fun bt365 => ((spec_EvalExpr.f k l1_0 t358 (Int.tmod (rd t361 0) 12)).bind fun bt367 => (if 0 ≤ (wrap64 ((l1_0.length : Int) - 1)) then (if (wrap64 ((l1_0.length : Int) - 1)) < (l1_0.length : Int) then (if (bt365.2 != bt367.2) = true then (laws_FnExprs.j0 k t358 (Int.tmod (rd t361 0) 12) bt365.1 bt365.2 true l1_0 ((rd_T34 l1_0 (wrap64 ((l1_0.length : Int) - 1))).f0) ((rd_T34 l1_0 (wrap64 ((l1_0.length : Int) - 1))).f1) ((rd_T34 l1_0 (wrap64 ((l1_0.length : Int) - 1))).f2) ((rd_T34 l1_0 (wrap64 ((l1_0.length : Int) - 1))).f3)) else (if bt365.1 = bt367.1 then ((impl_ExprOk.f k l1_0).bind fun t371 => (laws_FnExprs.j0 k t358 (Int.tmod (rd t361 0) 12) bt365.1 bt365.2 (!t371) l1_0 ((rd_T34 l1_0 (wrap64 ((l1_0.length : Int) - 1))).f0) ((rd_T34 l1_0 (wrap64 ((l1_0.length : Int) - 1))).f1) ((rd_T34 l1_0 (wrap64 ((l1_0.length : Int) - 1))).f2) ((rd_T34 l1_0 (wrap64 ((l1_0.length : Int) - 1))).f3))) else (laws_FnExprs.j0 k t358 (Int.tmod (rd t361 0) 12) bt365.1 bt365.2 true l1_0 ((rd_T34 l1_0 (wrap64 ((l1_0.length : Int) - 1))).f0) ((rd_T34 l1_0 (wrap64 ((l1_0.length : Int) - 1))).f1) ((rd_T34 l1_0 (wrap64 ((l1_0.length : Int) - 1))).f2) ((rd_T34 l1_0 (wrap64 ((l1_0.length : Int) - 1))).f3)))) else (none)) else (none)))) else (none)))))
theorem laws_FnExprs.mono_l : ∀ k,(∀ y0 y1 y2 y3 y4 y5 y6 y7 y8 y9,LeO (laws_FnExprs.j0 k y0 y1 y2 y3 y4 y5 y6 y7 y8 y9) (laws_FnExprs.j0 (k + 1) y0 y1 y2 y3 y4 y5 y6 y7 y8 y9)) ∧ (∀ y0 y1 y2 y3 y4 y5 y6 y7 y8 y9 y10,LeO (laws_FnExprs.l0 k y0 y1 y2 y3 y4 y5 y6 y7 y8 y9 y10) (laws_FnExprs.l0 (k + 1) y0 y1 y2 y3 y4 y5 y6 y7 y8 y9 y10))
 |0 => ⟨fun _ _ _ _ _ _ _ _ _ _ r h => by simp [laws_FnExprs.j0] at h,fun _ _ _ _ _ _ _ _ _ _ _ r h => by simp [laws_FnExprs.l0] at h⟩
 |k + 1 => by
  obtain ⟨ih0,ih1⟩:=laws_FnExprs.mono_l k
  refine ⟨?_,?_⟩
  ·intro y0 y1 y2 y3 y4 y5 y6 y7 y8 y9
   unfold laws_FnExprs.j0
   repeat' first
   |(with_reducible exact ih0 _ _ _ _ _ _ _ _ _ _)
   |(with_reducible exact ih1 _ _ _ _ _ _ _ _ _ _ _)
   |(with_reducible exact impl_EvalExpr.mono _ _ _ _)
   |(with_reducible exact impl_ExprOk.mono _ _)
   |(with_reducible exact spec_DrawEnv.mono _ _)
   |(with_reducible exact spec_DrawPlaces.mono _ _)
   |(with_reducible exact spec_EnvGet.mono _ _ _)
   |(with_reducible exact spec_EvalExpr.mono _ _ _ _)
   |(with_reducible exact LeO.refl _)
   |(with_reducible exact LeO.none _)
   |(with_reducible refine LeO.ite ?_ ?_)
   |(with_reducible refine LeO.bind ?_ (fun _ => ?_))
  ·intro y0 y1 y2 y3 y4 y5 y6 y7 y8 y9 y10
   unfold laws_FnExprs.l0
   repeat' first
   |(with_reducible exact ih0 _ _ _ _ _ _ _ _ _ _)
   |(with_reducible exact ih1 _ _ _ _ _ _ _ _ _ _ _)
   |(with_reducible exact impl_EvalExpr.mono _ _ _ _)
   |(with_reducible exact impl_ExprOk.mono _ _)
   |(with_reducible exact spec_DrawEnv.mono _ _)
   |(with_reducible exact spec_DrawPlaces.mono _ _)
   |(with_reducible exact spec_EnvGet.mono _ _ _)
   |(with_reducible exact spec_EvalExpr.mono _ _ _ _)
   |(with_reducible exact LeO.refl _)
   |(with_reducible exact LeO.none _)
   |(with_reducible refine LeO.ite ?_ ?_)
   |(with_reducible refine LeO.bind ?_ (fun _ => ?_))
theorem laws_FnExprs.mono0 : ∀ a0 a1 k,LeO (laws_FnExprs.f0 k a0 a1) (laws_FnExprs.f0 (k + 1) a0 a1):=by
 intro a0 a1 k
 obtain ⟨ih0,ih1⟩:=laws_FnExprs.mono_l k
 unfold laws_FnExprs.f0
 repeat' first
   |(with_reducible exact ih0 _ _ _ _ _ _ _ _ _ _)
   |(with_reducible exact ih1 _ _ _ _ _ _ _ _ _ _ _)
   |(with_reducible exact impl_EvalExpr.mono _ _ _ _)
   |(with_reducible exact impl_ExprOk.mono _ _)
   |(with_reducible exact spec_DrawEnv.mono _ _)
   |(with_reducible exact spec_DrawPlaces.mono _ _)
   |(with_reducible exact spec_EnvGet.mono _ _ _)
   |(with_reducible exact spec_EvalExpr.mono _ _ _ _)
   |(with_reducible exact LeO.refl _)
   |(with_reducible exact LeO.none _)
   |(with_reducible refine LeO.ite ?_ ?_)
   |(with_reducible refine LeO.bind ?_ (fun _ => ?_))
def laws_FnExprs.T15 : Bool × List (List Nat × List Nat):=(true,[([],[]),([0],[0]),([],[]),([2],[2]),([],[]),([3,4],[3,4]),([5],[5]),([6],[6]),([1,7],[1,7]),([8],[8]),([],[]),([10,9,0,1,2,3,4,5,6,7,8,9,10],[9,10])])
def laws_FnExprs.B15 : List Nat:=[0,1,0,4,0,28,60,124,255,511,0,2047]
theorem laws_FnExprs.tab15 : rtab .any (opsOf Try.f4 15) = laws_FnExprs.T15:=by kernel_rfl
theorem laws_FnExprs.bits15 : waitsOk laws_FnExprs.T15.2 laws_FnExprs.B15 = true:=by kernel_rfl
def laws_FnExprs.T26 : Bool × List (List Nat × List Nat):=(true,[([],[]),([0],[0]),([1],[1]),([2],[2]),([2],[2]),([4,2],[2,4]),([5,2],[2,5]),([2],[2]),([7,2],[2,7]),([8,2],[2,8]),([6,9,2],[2,6,9]),([3,10,2],[2,3,10]),([2,11],[2,11]),([12,2,0,1,2,3,4,5,6,7,8,9,10,11,12],[12])])
def laws_FnExprs.B26 : List Nat:=[0,1,3,7,7,23,55,7,135,391,1015,2047,4095,8191]
theorem laws_FnExprs.tab26 : rtab .any (opsOf Try.f4 26) = laws_FnExprs.T26:=by kernel_rfl
theorem laws_FnExprs.bits26 : waitsOk laws_FnExprs.T26.2 laws_FnExprs.B26 = true:=by kernel_rfl
def laws_FnExprs.T28 : Bool × List (List Nat × List Nat):=(true,[([],[]),([0],[0]),([1],[1]),([2],[2]),([2],[2]),([4,2],[2,4]),([5,2],[2,5]),([2],[2]),([7,2],[2,7]),([8,2],[2,8]),([6,9,2],[2,6,9]),([3,10,2],[2,3,10]),([2,11],[2,11]),([12,2,0,1,2,3,4,5,6,7,8,9,10,11,12],[12])])
def laws_FnExprs.B28 : List Nat:=[0,1,3,7,7,23,55,7,135,391,1015,2047,4095,8191]
theorem laws_FnExprs.tab28 : rtab .any (opsOf Try.f4 28) = laws_FnExprs.T28:=by kernel_rfl
theorem laws_FnExprs.bits28 : waitsOk laws_FnExprs.T28.2 laws_FnExprs.B28 = true:=by kernel_rfl
def laws_FnExprs.T30 : Bool × List (List Nat × List Nat):=(true,[([],[]),([0],[0]),([1],[1]),([2],[2]),([2],[2]),([4,2],[2,4]),([5,2],[2,5]),([2],[2]),([7,2],[2,7]),([8,2],[2,8]),([6,9,2],[2,6,9]),([3,10,2],[2,3,10]),([2,11],[2,11]),([12,2,0,1,2,3,4,5,6,7,8,9,10,11,12],[12])])
def laws_FnExprs.B30 : List Nat:=[0,1,3,7,7,23,55,7,135,391,1015,2047,4095,8191]
theorem laws_FnExprs.tab30 : rtab .any (opsOf Try.f4 30) = laws_FnExprs.T30:=by kernel_rfl
theorem laws_FnExprs.bits30 : waitsOk laws_FnExprs.T30.2 laws_FnExprs.B30 = true:=by kernel_rfl
def laws_FnExprs.T32 : Bool × List (List Nat × List Nat):=(true,[([],[]),([],[]),([1],[1]),([2],[2]),([3],[3]),([0,4],[0,4]),([5],[5]),([6],[6]),([7,6],[6,7]),([8,6,6],[6,8]),([9],[9]),([9],[9]),([11,9],[9,11]),([12,9],[9,12]),([9],[9]),([14,9],[9,14]),([15,9],[9,15]),([13,16,9],[9,13,16]),([10,17,9],[9,10,17]),([9,18,6],[6,9,18]),([6,19],[6,19]),([20,9,0,1,2,3,4,5,6,7,8,9,10,11,12,13,14,15,16,17,18,19,20],[20])])
def laws_FnExprs.B32 : List Nat:=[0,0,2,6,14,31,63,127,255,511,1023,1023,3071,7167,1023,17407,50175,130047,262143,524287,1048575,2097151]
theorem laws_FnExprs.tab32 : rtab .any (opsOf Try.f4 32) = laws_FnExprs.T32:=by kernel_rfl
theorem laws_FnExprs.bits32 : waitsOk laws_FnExprs.T32.2 laws_FnExprs.B32 = true:=by kernel_rfl
/-- The whole of it: the expression is drawn,then what is told of it. -/
def laws_FnExprs.f (k : Nat) (l0 : List Int) : Option (Bool):=(spec_DrawExpr.f k l0).bind fun e => laws_FnExprs.f0 k l0 e
set_option maxHeartbeats 8000000 in
set_option maxRecDepth 100000 in
theorem laws_FnExprs.calls (k : Nat) (A0 : Option Addr) (c0 : Nat) (l0 : List Int) (r : Bool) (w : World) (hr0 : Kd.C (Kd.int .u8) w A0 l0.length l0) (hc0 : l0.length ≤ c0) (h : laws_FnExprs.f k l0 = some r) :
  Calls Try.prog 4 #[.slice A0 l0.length c0] w fun e w' => e = .returned (.bool r) ∧ Below w.heap.size w w':=by
 have hu28:=Try.underlying28
 have hu34:=Try.underlying34
 have HR0:=zm_ hr0
 have HC0:=zm_ hc0
 clear hr0 hc0
 obtain ⟨l1_0,hd,h0⟩:=Option.bind_eq_some_iff.mp h
 have HD:=zm_ hd
 clear h hd
 have h:=h0
 clear h0
 have HB:=zm_ (Below.refl w.heap.size w)
 have H : ((laws_big.f l0).bind fun t356 => (if t356 = true then (some true) else ((spec_DrawEnv.f k l0).bind fun t358 => ((spec_DrawPlaces.f k l0).bind fun t361 => (if 0 < (t361.length : Int) then ((impl_EvalExpr.f k l1_0 t358 (Int.tmod (rd t361 0) 12)).bind fun bt365 => ((spec_EvalExpr.f k l1_0 t358 (Int.tmod (rd t361 0) 12)).bind fun bt367 => (if 0 ≤ (wrap64 ((l1_0.length : Int) - 1)) then (if (wrap64 ((l1_0.length : Int) - 1)) < (l1_0.length : Int) then (if (bt365.2 != bt367.2) = true then (laws_FnExprs.j0 k t358 (Int.tmod (rd t361 0) 12) bt365.1 bt365.2 true l1_0 ((rd_T34 l1_0 (wrap64 ((l1_0.length : Int) - 1))).f0) ((rd_T34 l1_0 (wrap64 ((l1_0.length : Int) - 1))).f1) ((rd_T34 l1_0 (wrap64 ((l1_0.length : Int) - 1))).f2) ((rd_T34 l1_0 (wrap64 ((l1_0.length : Int) - 1))).f3)) else (if bt365.1 = bt367.1 then ((impl_ExprOk.f k l1_0).bind fun t371 => (laws_FnExprs.j0 k t358 (Int.tmod (rd t361 0) 12) bt365.1 bt365.2 (!t371) l1_0 ((rd_T34 l1_0 (wrap64 ((l1_0.length : Int) - 1))).f0) ((rd_T34 l1_0 (wrap64 ((l1_0.length : Int) - 1))).f1) ((rd_T34 l1_0 (wrap64 ((l1_0.length : Int) - 1))).f2) ((rd_T34 l1_0 (wrap64 ((l1_0.length : Int) - 1))).f3))) else (laws_FnExprs.j0 k t358 (Int.tmod (rd t361 0) 12) bt365.1 bt365.2 true l1_0 ((rd_T34 l1_0 (wrap64 ((l1_0.length : Int) - 1))).f0) ((rd_T34 l1_0 (wrap64 ((l1_0.length : Int) - 1))).f1) ((rd_T34 l1_0 (wrap64 ((l1_0.length : Int) - 1))).f2) ((rd_T34 l1_0 (wrap64 ((l1_0.length : Int) - 1))).f3)))) else (none)) else (none)))) else (none)))))) = some r:=h
 clear h
 replace H:=Option.bind_eq_some_iff.mp H
 obtain ⟨t356,A30,H⟩:=H
 replace H : (if t356 = true then (some true) else ((spec_DrawEnv.f k l0).bind fun t358 => ((spec_DrawPlaces.f k l0).bind fun t361 => (if 0 < (t361.length : Int) then ((impl_EvalExpr.f k l1_0 t358 (Int.tmod (rd t361 0) 12)).bind fun bt365 => ((spec_EvalExpr.f k l1_0 t358 (Int.tmod (rd t361 0) 12)).bind fun bt367 => (if 0 ≤ (wrap64 ((l1_0.length : Int) - 1)) then (if (wrap64 ((l1_0.length : Int) - 1)) < (l1_0.length : Int) then (if (bt365.2 != bt367.2) = true then (laws_FnExprs.j0 k t358 (Int.tmod (rd t361 0) 12) bt365.1 bt365.2 true l1_0 ((rd_T34 l1_0 (wrap64 ((l1_0.length : Int) - 1))).f0) ((rd_T34 l1_0 (wrap64 ((l1_0.length : Int) - 1))).f1) ((rd_T34 l1_0 (wrap64 ((l1_0.length : Int) - 1))).f2) ((rd_T34 l1_0 (wrap64 ((l1_0.length : Int) - 1))).f3)) else (if bt365.1 = bt367.1 then ((impl_ExprOk.f k l1_0).bind fun t371 => (laws_FnExprs.j0 k t358 (Int.tmod (rd t361 0) 12) bt365.1 bt365.2 (!t371) l1_0 ((rd_T34 l1_0 (wrap64 ((l1_0.length : Int) - 1))).f0) ((rd_T34 l1_0 (wrap64 ((l1_0.length : Int) - 1))).f1) ((rd_T34 l1_0 (wrap64 ((l1_0.length : Int) - 1))).f2) ((rd_T34 l1_0 (wrap64 ((l1_0.length : Int) - 1))).f3))) else (laws_FnExprs.j0 k t358 (Int.tmod (rd t361 0) 12) bt365.1 bt365.2 true l1_0 ((rd_T34 l1_0 (wrap64 ((l1_0.length : Int) - 1))).f0) ((rd_T34 l1_0 (wrap64 ((l1_0.length : Int) - 1))).f1) ((rd_T34 l1_0 (wrap64 ((l1_0.length : Int) - 1))).f2) ((rd_T34 l1_0 (wrap64 ((l1_0.length : Int) - 1))).f3)))) else (none)) else (none)))) else (none))))) = some r:=H
 have A3:=zm_ A30
 clear A30
 by_cases c4 : t356 = true
 ·subst c4
  have H1 : (some true) = some r:=by rw [if_pos rfl] at H;exact H
  clear H
  have H:=H1
  clear H1
  obtain rfl:=Option.some.inj H
  go_enter Try.func4,Try.ntmps4
  go_wp2_with (first|((with_reducible refine gate_callee (f:=9) rfl ?_);refine goesL_ (some 19) rfl rfl Try.func9 (by kernel_rfl) rfl #[.slice A0 l0.length c0] rfl zq_ ?_;(with_reducible refine (laws_big.calls _ _ l0 true _ ?side1 ?side2 A3.out).mono ?_);(case side1 => exact zC_);(case side2 => exact HC0.out);rintro e w' ⟨rfl,⟨nd,rfl⟩⟩;refine ⟨_,rfl,?_⟩))
  go_ret
  exact ⟨zE_,by repeat (first|(with_reducible first|exact HB.out|apply za_|apply zn_|apply zd_)|exact HB.out)⟩
 ·replace c4:=Bool.eq_false_iff.mpr c4
  subst c4
  have H1 : ((spec_DrawEnv.f k l0).bind fun t358 => ((spec_DrawPlaces.f k l0).bind fun t361 => (if 0 < (t361.length : Int) then ((impl_EvalExpr.f k l1_0 t358 (Int.tmod (rd t361 0) 12)).bind fun bt365 => ((spec_EvalExpr.f k l1_0 t358 (Int.tmod (rd t361 0) 12)).bind fun bt367 => (if 0 ≤ (wrap64 ((l1_0.length : Int) - 1)) then (if (wrap64 ((l1_0.length : Int) - 1)) < (l1_0.length : Int) then (if (bt365.2 != bt367.2) = true then (laws_FnExprs.j0 k t358 (Int.tmod (rd t361 0) 12) bt365.1 bt365.2 true l1_0 ((rd_T34 l1_0 (wrap64 ((l1_0.length : Int) - 1))).f0) ((rd_T34 l1_0 (wrap64 ((l1_0.length : Int) - 1))).f1) ((rd_T34 l1_0 (wrap64 ((l1_0.length : Int) - 1))).f2) ((rd_T34 l1_0 (wrap64 ((l1_0.length : Int) - 1))).f3)) else (if bt365.1 = bt367.1 then ((impl_ExprOk.f k l1_0).bind fun t371 => (laws_FnExprs.j0 k t358 (Int.tmod (rd t361 0) 12) bt365.1 bt365.2 (!t371) l1_0 ((rd_T34 l1_0 (wrap64 ((l1_0.length : Int) - 1))).f0) ((rd_T34 l1_0 (wrap64 ((l1_0.length : Int) - 1))).f1) ((rd_T34 l1_0 (wrap64 ((l1_0.length : Int) - 1))).f2) ((rd_T34 l1_0 (wrap64 ((l1_0.length : Int) - 1))).f3))) else (laws_FnExprs.j0 k t358 (Int.tmod (rd t361 0) 12) bt365.1 bt365.2 true l1_0 ((rd_T34 l1_0 (wrap64 ((l1_0.length : Int) - 1))).f0) ((rd_T34 l1_0 (wrap64 ((l1_0.length : Int) - 1))).f1) ((rd_T34 l1_0 (wrap64 ((l1_0.length : Int) - 1))).f2) ((rd_T34 l1_0 (wrap64 ((l1_0.length : Int) - 1))).f3)))) else (none)) else (none)))) else (none)))) = some r:=by rw [if_neg (show ¬ (false = true) by decide)] at H;exact H
  clear H
  have H:=H1
  clear H1
  replace H:=Option.bind_eq_some_iff.mp H
  obtain ⟨t358,A50,H⟩:=H
  replace H : ((spec_DrawPlaces.f k l0).bind fun t361 => (if 0 < (t361.length : Int) then ((impl_EvalExpr.f k l1_0 t358 (Int.tmod (rd t361 0) 12)).bind fun bt365 => ((spec_EvalExpr.f k l1_0 t358 (Int.tmod (rd t361 0) 12)).bind fun bt367 => (if 0 ≤ (wrap64 ((l1_0.length : Int) - 1)) then (if (wrap64 ((l1_0.length : Int) - 1)) < (l1_0.length : Int) then (if (bt365.2 != bt367.2) = true then (laws_FnExprs.j0 k t358 (Int.tmod (rd t361 0) 12) bt365.1 bt365.2 true l1_0 ((rd_T34 l1_0 (wrap64 ((l1_0.length : Int) - 1))).f0) ((rd_T34 l1_0 (wrap64 ((l1_0.length : Int) - 1))).f1) ((rd_T34 l1_0 (wrap64 ((l1_0.length : Int) - 1))).f2) ((rd_T34 l1_0 (wrap64 ((l1_0.length : Int) - 1))).f3)) else (if bt365.1 = bt367.1 then ((impl_ExprOk.f k l1_0).bind fun t371 => (laws_FnExprs.j0 k t358 (Int.tmod (rd t361 0) 12) bt365.1 bt365.2 (!t371) l1_0 ((rd_T34 l1_0 (wrap64 ((l1_0.length : Int) - 1))).f0) ((rd_T34 l1_0 (wrap64 ((l1_0.length : Int) - 1))).f1) ((rd_T34 l1_0 (wrap64 ((l1_0.length : Int) - 1))).f2) ((rd_T34 l1_0 (wrap64 ((l1_0.length : Int) - 1))).f3))) else (laws_FnExprs.j0 k t358 (Int.tmod (rd t361 0) 12) bt365.1 bt365.2 true l1_0 ((rd_T34 l1_0 (wrap64 ((l1_0.length : Int) - 1))).f0) ((rd_T34 l1_0 (wrap64 ((l1_0.length : Int) - 1))).f1) ((rd_T34 l1_0 (wrap64 ((l1_0.length : Int) - 1))).f2) ((rd_T34 l1_0 (wrap64 ((l1_0.length : Int) - 1))).f3)))) else (none)) else (none)))) else (none))) = some r:=H
  have A5:=zm_ A50
  clear A50
  replace H:=Option.bind_eq_some_iff.mp H
  obtain ⟨t361,A60,H⟩:=H
  replace H : (if 0 < (t361.length : Int) then ((impl_EvalExpr.f k l1_0 t358 (Int.tmod (rd t361 0) 12)).bind fun bt365 => ((spec_EvalExpr.f k l1_0 t358 (Int.tmod (rd t361 0) 12)).bind fun bt367 => (if 0 ≤ (wrap64 ((l1_0.length : Int) - 1)) then (if (wrap64 ((l1_0.length : Int) - 1)) < (l1_0.length : Int) then (if (bt365.2 != bt367.2) = true then (laws_FnExprs.j0 k t358 (Int.tmod (rd t361 0) 12) bt365.1 bt365.2 true l1_0 ((rd_T34 l1_0 (wrap64 ((l1_0.length : Int) - 1))).f0) ((rd_T34 l1_0 (wrap64 ((l1_0.length : Int) - 1))).f1) ((rd_T34 l1_0 (wrap64 ((l1_0.length : Int) - 1))).f2) ((rd_T34 l1_0 (wrap64 ((l1_0.length : Int) - 1))).f3)) else (if bt365.1 = bt367.1 then ((impl_ExprOk.f k l1_0).bind fun t371 => (laws_FnExprs.j0 k t358 (Int.tmod (rd t361 0) 12) bt365.1 bt365.2 (!t371) l1_0 ((rd_T34 l1_0 (wrap64 ((l1_0.length : Int) - 1))).f0) ((rd_T34 l1_0 (wrap64 ((l1_0.length : Int) - 1))).f1) ((rd_T34 l1_0 (wrap64 ((l1_0.length : Int) - 1))).f2) ((rd_T34 l1_0 (wrap64 ((l1_0.length : Int) - 1))).f3))) else (laws_FnExprs.j0 k t358 (Int.tmod (rd t361 0) 12) bt365.1 bt365.2 true l1_0 ((rd_T34 l1_0 (wrap64 ((l1_0.length : Int) - 1))).f0) ((rd_T34 l1_0 (wrap64 ((l1_0.length : Int) - 1))).f1) ((rd_T34 l1_0 (wrap64 ((l1_0.length : Int) - 1))).f2) ((rd_T34 l1_0 (wrap64 ((l1_0.length : Int) - 1))).f3)))) else (none)) else (none)))) else (none)) = some r:=H
  have A6:=zm_ A60
  clear A60
  by_cases c7 : 0 < (t361.length : Int)
  ·rw [if_pos c7] at H
   have c7b0 : decide (0 < (t361.length : Int)) = true:=decide_eq_true c7
   have c7b1 : decide (0 < t361.length) = true:=decide_eq_true (by omega)
   clear c7
   replace H:=Option.bind_eq_some_iff.mp H
   obtain ⟨⟨t365,t366⟩,A80,H⟩:=H
   replace H : ((spec_EvalExpr.f k l1_0 t358 (Int.tmod (rd t361 0) 12)).bind fun bt367 => (if 0 ≤ (wrap64 ((l1_0.length : Int) - 1)) then (if (wrap64 ((l1_0.length : Int) - 1)) < (l1_0.length : Int) then (if (t366 != bt367.2) = true then (laws_FnExprs.j0 k t358 (Int.tmod (rd t361 0) 12) t365 t366 true l1_0 ((rd_T34 l1_0 (wrap64 ((l1_0.length : Int) - 1))).f0) ((rd_T34 l1_0 (wrap64 ((l1_0.length : Int) - 1))).f1) ((rd_T34 l1_0 (wrap64 ((l1_0.length : Int) - 1))).f2) ((rd_T34 l1_0 (wrap64 ((l1_0.length : Int) - 1))).f3)) else (if t365 = bt367.1 then ((impl_ExprOk.f k l1_0).bind fun t371 => (laws_FnExprs.j0 k t358 (Int.tmod (rd t361 0) 12) t365 t366 (!t371) l1_0 ((rd_T34 l1_0 (wrap64 ((l1_0.length : Int) - 1))).f0) ((rd_T34 l1_0 (wrap64 ((l1_0.length : Int) - 1))).f1) ((rd_T34 l1_0 (wrap64 ((l1_0.length : Int) - 1))).f2) ((rd_T34 l1_0 (wrap64 ((l1_0.length : Int) - 1))).f3))) else (laws_FnExprs.j0 k t358 (Int.tmod (rd t361 0) 12) t365 t366 true l1_0 ((rd_T34 l1_0 (wrap64 ((l1_0.length : Int) - 1))).f0) ((rd_T34 l1_0 (wrap64 ((l1_0.length : Int) - 1))).f1) ((rd_T34 l1_0 (wrap64 ((l1_0.length : Int) - 1))).f2) ((rd_T34 l1_0 (wrap64 ((l1_0.length : Int) - 1))).f3)))) else (none)) else (none))) = some r:=H
   have A8:=zm_ A80
   clear A80
   replace H:=Option.bind_eq_some_iff.mp H
   obtain ⟨⟨t367,t368⟩,A90,H⟩:=H
   replace H : (if 0 ≤ (wrap64 ((l1_0.length : Int) - 1)) then (if (wrap64 ((l1_0.length : Int) - 1)) < (l1_0.length : Int) then (if (t366 != t368) = true then (laws_FnExprs.j0 k t358 (Int.tmod (rd t361 0) 12) t365 t366 true l1_0 ((rd_T34 l1_0 (wrap64 ((l1_0.length : Int) - 1))).f0) ((rd_T34 l1_0 (wrap64 ((l1_0.length : Int) - 1))).f1) ((rd_T34 l1_0 (wrap64 ((l1_0.length : Int) - 1))).f2) ((rd_T34 l1_0 (wrap64 ((l1_0.length : Int) - 1))).f3)) else (if t365 = t367 then ((impl_ExprOk.f k l1_0).bind fun t371 => (laws_FnExprs.j0 k t358 (Int.tmod (rd t361 0) 12) t365 t366 (!t371) l1_0 ((rd_T34 l1_0 (wrap64 ((l1_0.length : Int) - 1))).f0) ((rd_T34 l1_0 (wrap64 ((l1_0.length : Int) - 1))).f1) ((rd_T34 l1_0 (wrap64 ((l1_0.length : Int) - 1))).f2) ((rd_T34 l1_0 (wrap64 ((l1_0.length : Int) - 1))).f3))) else (laws_FnExprs.j0 k t358 (Int.tmod (rd t361 0) 12) t365 t366 true l1_0 ((rd_T34 l1_0 (wrap64 ((l1_0.length : Int) - 1))).f0) ((rd_T34 l1_0 (wrap64 ((l1_0.length : Int) - 1))).f1) ((rd_T34 l1_0 (wrap64 ((l1_0.length : Int) - 1))).f2) ((rd_T34 l1_0 (wrap64 ((l1_0.length : Int) - 1))).f3)))) else (none)) else (none)) = some r:=H
   have A9:=zm_ A90
   clear A90
   obtain ⟨ji10,hji10⟩ : ∃ j_ : Int,(wrap64 ((l1_0.length : Int) - 1)) = j_:=⟨_,rfl⟩
   replace H : (if 0 ≤ (ji10) then (if (ji10) < (l1_0.length : Int) then (if (t366 != t368) = true then (laws_FnExprs.j0 k t358 (Int.tmod (rd t361 0) 12) t365 t366 true l1_0 ((rd_T34 l1_0 (ji10)).f0) ((rd_T34 l1_0 (ji10)).f1) ((rd_T34 l1_0 (ji10)).f2) ((rd_T34 l1_0 (ji10)).f3)) else (if t365 = t367 then ((impl_ExprOk.f k l1_0).bind fun t371 => (laws_FnExprs.j0 k t358 (Int.tmod (rd t361 0) 12) t365 t366 (!t371) l1_0 ((rd_T34 l1_0 (ji10)).f0) ((rd_T34 l1_0 (ji10)).f1) ((rd_T34 l1_0 (ji10)).f2) ((rd_T34 l1_0 (ji10)).f3))) else (laws_FnExprs.j0 k t358 (Int.tmod (rd t361 0) 12) t365 t366 true l1_0 ((rd_T34 l1_0 (ji10)).f0) ((rd_T34 l1_0 (ji10)).f1) ((rd_T34 l1_0 (ji10)).f2) ((rd_T34 l1_0 (ji10)).f3)))) else (none)) else (none)) = some r:=by first|(rw [hji10] at H;exact H)|(simp only [hji10] at H ⊢;exact H)
   (try rw [hji10] at A3)
   (try rw [hji10] at A5)
   (try rw [hji10] at A6)
   (try rw [hji10] at A8)
   (try rw [hji10] at A9)
   have hji10w : (IntKind.i64.wrap ((l1_0.length : Int) - 1)) = ji10:=(i64_w _).trans hji10
   by_cases c11 : 0 ≤ (ji10)
   ·rw [if_pos c11] at H
    have c11b0 : decide (0 ≤ (ji10)) = true:=decide_eq_true c11
    clear c11
    by_cases c12 : (ji10) < (l1_0.length : Int)
    ·rw [if_pos c12] at H
     have c12b0 : decide ((ji10) < (l1_0.length : Int)) = true:=decide_eq_true c12
     clear c12
     have HC13:=zm_ H
     clear H
     go_enter Try.func4,Try.ntmps4
     go_upto_region 9 with (first|((with_reducible refine gate_callee (f:=16) rfl ?_);refine goesL_ (some 21) rfl rfl Try.func16 (by kernel_rfl) rfl #[.slice A0 l0.length c0] rfl (by (try simp only [List.map_toArray,List.map_cons,List.map_nil]);first|done|rfl) ?_;(with_reducible refine (spec_DrawExpr.calls k _ _ l0 l1_0 _ ?side1 ?side2 HD.out).mono ?_);(case side1 => exact zC_);(case side2 => exact HC0.out);rintro e w ⟨v0_,rfl,hs_,hb_⟩;refine ⟨_,rfl,?_⟩;have HBQ:=zm_ (below_step zB_ hb_);have FIN:=zm_ (fun (e' : Ending) (w' : World) (h' : e' = .returned (.bool r) ∧ Below w.heap.size w w') => (show e' = .returned (.bool r) ∧ Below _ _ w' from ⟨h'.1,below_step HBQ.out h'.2⟩));have HR0q:=zm_ (Kd.C_below HR0.out HBQ.out);clear HR0 HB;have HR0:=HR0q;clear HR0q HBQ hb_;have HB:=zm_ (Below.refl w.heap.size w);obtain ⟨A1_0,c1_0,ev_⟩:=Kd.S_slice hs_;subst ev_;have HR1_0:=zm_ (Kd.S_reads' hs_).2.2;have HC1_0:=zm_ (Kd.S_reads' hs_).2.1;clear hs_)|((with_reducible refine gate_callee (f:=9) rfl ?_);refine goesL_ (some 19) rfl rfl Try.func9 (by kernel_rfl) rfl #[.slice A0 l0.length c0] rfl zq_ ?_;(with_reducible refine (laws_big.calls _ _ l0 false _ ?side1 ?side2 A3.out).mono ?_);(case side1 => exact zC_);(case side2 => exact HC0.out);rintro e w' ⟨rfl,⟨nd,rfl⟩⟩;refine ⟨_,rfl,?_⟩)|((with_reducible refine gate_dst (N:=3) rfl ?_);refine box_event ?hg (N:=3) ?hd (cs:=#[.slice none 0 0]) (t:=28) ?hr ?_;(case hd => rfl);(case hg => rfl);(case hr => first|(go_simp;done)|(go_simp;rfl));intro gb357 hg w14 hbox hb;have n0_:=zm_ (below_step zB_ hb);have n1_:=zm_ (hbox);have n2_:=zm_ ((by rw [hg];exact (below_size zB_) : w.heap.size ≤ gb357));have n3_:=zm_ ((by rw [hg];exact (below_size zB_) : w.heap.size ≤ gb357));clear HB;have HB:=n0_;have BK357:=n1_;have GW357:=n2_;have GE357:=n3_;clear n0_ n1_ n2_ n3_;clear hb hbox hg;have hcz15_0 : w14.cell? ⟨gb357,0,none⟩ = some (.slice none 0 0):=(zc_ BK357.out 0).trans rfl;have hfz15_0:=zf_ BK357.out 0)|((with_reducible refine gate_callee (f:=17) rfl ?_);refine goesL_ (some 23) rfl rfl Try.func17 (by kernel_rfl) rfl #[.slice A0 l0.length c0] rfl zq_ ?_;(with_reducible refine (spec_DrawEnv.calls k _ _ l0 t358 _ ?side1 ?side2 A5.out).mono ?_);(case side1 => exact Kd.C_below HR0.out zt11_3);(case side2 => exact HC0.out);rintro e w16 ⟨v359,rfl,ho0,hb⟩;refine ⟨_,rfl,?_⟩;have n0_:=zm_ (Kd.R_lower ho0 (below_size zt11_3));have n1_:=zm_ (blk_below (g:=gb357) (o:=.cells #[.slice A1_0 l1_0.length c1_0] 28 (0,0)) (by (with_reducible repeat first|refine zl_ ?_ _|refine zr_ ?_|refine zk_ ?_ _);refine blk_put (cs:=#[.slice none 0 0]) ?_ 0 _ rfl;(with_reducible repeat first|refine zl_ ?_ _|refine zr_ ?_|refine zk_ ?_ _);exact BK357.out) hb);have n2_:=zm_ (below_step zt11_3 hb);clear BK357;clear HB;have HO360:=n0_;have BK357:=n1_;have HB:=n2_;clear n0_ n1_ n2_;(try clear hb);(try clear hb2);(try clear hk);(try clear hi);(try clear ho0))|((with_reducible refine gate_callee (f:=10) rfl ?_);refine goesL_ (some 25) rfl rfl Try.func10 (by kernel_rfl) rfl #[.slice A0 l0.length c0] rfl zq_ ?_;(with_reducible refine (spec_DrawPlaces.calls k _ _ l0 t361 _ ?side1 ?side2 A6.out).mono ?_);(case side1 => exact zD_);(case side2 => exact HC0.out);rintro e w17 ⟨v362,rfl,ho0,hb⟩;refine ⟨_,rfl,?_⟩;have n0_:=zm_ (Kd.R_below zt11_8 hb);have n1_:=zm_ (Kd.R_lower ho0 (below_size zt11_3));have n2_:=zm_ (blk_below (g:=gb357) (o:=.cells #[.slice A1_0 l1_0.length c1_0] 28 (0,0)) zt11_2 hb);have n3_:=zm_ (below_step zt11_3 hb);clear HO360;clear BK357;clear HB;have HO360:=n0_;have HO363:=n1_;have BK357:=n2_;have HB:=n3_;clear n0_ n1_ n2_ n3_;(try clear hb);(try clear hb2);(try clear hk);(try clear hi);(try clear ho0);obtain ⟨Ao18,co18,eo18⟩:=Kd.R_slice HO363.out;subst eo18;have p364 : 0 ≤ (0 : Int):=(by omega);have q364 : 0 < (t361.length : Int):=zo_;obtain ⟨ad364,e364,hx364_0⟩:=Kd.at_int (Kd.R_reads' HO363.out).2.2 0 p364 q364;cases e364;have qi364 : (0 < t361.length) = True:=eq_true (by omega);(try rw [show ((0 : Int)).toNat = 0 from rfl] at hx364_0);(try rw [Addr.add_zero'] at hx364_0);replace p364:=eq_true p364;replace q364:=eq_true q364;have hcz19_0 : w17.cell? ⟨gb357,0,none⟩ = some (.slice A1_0 l1_0.length c1_0):=(zc_ BK357.out 0).trans rfl;have hfz19_0:=zf_ BK357.out 0;obtain ⟨Ao20,co20,eo20⟩:=Kd.R_slice HO360.out;subst eo20)|((with_reducible refine gate_callee (f:=12) rfl ?_);refine goesL_ (some 33) rfl rfl Try.func12 (by kernel_rfl) rfl #[.agg #[.slice A1_0 l1_0.length c1_0],.slice Ao20 t358.length co20,.int .i64 (Int.tmod (rd t361 0) 12)] rfl zq_ ?_;(with_reducible refine (impl_EvalExpr.calls k _ _ l1_0 _ _ t358 (Int.tmod (rd t361 0) 12) t365 t366 _ ?side1 ?side2 ?side3 ?side4 A8.out).mono ?_);(case side1 => repeat (first|exact (Kd.C_below HR1_0.out HB.out)|(with_reducible refine Kd.C_alloc ?_ _)|(with_reducible refine Kd.C_drewN ?_ _)|(with_reducible refine Kd.C_drew ?_)));(case side2 => exact HC1_0.out);(case side3 => repeat (first|exact (Kd.R_reads' HO360.out).2.2|(with_reducible refine Kd.C_alloc ?_ _)|(with_reducible refine Kd.C_drewN ?_ _)|(with_reducible refine Kd.C_drew ?_)));(case side4 => exact (Kd.R_reads' HO360.out).2.1);rintro e w21 ⟨rfl,hb⟩;refine ⟨_,rfl,?_⟩;have n0_:=zm_ (Kd.R_below zt11_8 hb);have n1_:=zm_ (Kd.R_below (by (with_reducible repeat (first|apply Kd.R_alloc|apply Kd.R_drewN|apply Kd.R_drew));exact HO363.out) hb);have n2_:=zm_ (blk_below (g:=gb357) (o:=.cells #[.slice A1_0 l1_0.length c1_0] 28 (0,0)) zt11_2 hb);have n3_:=zm_ (below_step zt11_3 hb);clear HO360;clear HO363;clear BK357;clear HB;have HO360:=n0_;have HO363:=n1_;have BK357:=n2_;have HB:=n3_;clear n0_ n1_ n2_ n3_;(try clear hb);have hcz22_0 : w21.cell? ⟨gb357,0,none⟩ = some (.slice A1_0 l1_0.length c1_0):=(zc_ BK357.out 0).trans rfl;have hfz22_0:=zf_ BK357.out 0)|((with_reducible refine gate_callee (f:=18) rfl ?_);refine goesL_ (some 40) rfl rfl Try.func18 (by kernel_rfl) rfl #[.agg #[.slice A1_0 l1_0.length c1_0],.slice Ao20 t358.length co20,.int .i64 (Int.tmod (rd t361 0) 12)] rfl zq_ ?_;(with_reducible refine (spec_EvalExpr.calls k _ _ l1_0 _ _ t358 (Int.tmod (rd t361 0) 12) t367 t368 _ ?side1 ?side2 ?side3 ?side4 A9.out).mono ?_);(case side1 => repeat (first|exact (Kd.C_below HR1_0.out HB.out)|(with_reducible refine Kd.C_alloc ?_ _)|(with_reducible refine Kd.C_drewN ?_ _)|(with_reducible refine Kd.C_drew ?_)));(case side2 => exact HC1_0.out);(case side3 => repeat (first|exact (Kd.R_reads' HO360.out).2.2|(with_reducible refine Kd.C_alloc ?_ _)|(with_reducible refine Kd.C_drewN ?_ _)|(with_reducible refine Kd.C_drew ?_)));(case side4 => exact (Kd.R_reads' HO360.out).2.1);rintro e w23 ⟨rfl,hb⟩;refine ⟨_,rfl,?_⟩;have n0_:=zm_ (Kd.R_below zt11_8 hb);have n1_:=zm_ (Kd.R_below (by (with_reducible repeat (first|apply Kd.R_alloc|apply Kd.R_drewN|apply Kd.R_drew));exact HO363.out) hb);have n2_:=zm_ (blk_below (g:=gb357) (o:=.cells #[.slice A1_0 l1_0.length c1_0] 28 (0,0)) zt11_2 hb);have n3_:=zm_ (below_step zt11_3 hb);clear HO360;clear HO363;clear BK357;clear HB;have HO360:=n0_;have HO363:=n1_;have BK357:=n2_;have HB:=n3_;clear n0_ n1_ n2_ n3_;(try clear hb);have hcz24_0 : w23.cell? ⟨gb357,0,none⟩ = some (.slice A1_0 l1_0.length c1_0):=(zc_ BK357.out 0).trans rfl;have hfz24_0:=zf_ BK357.out 0;have p369 : 0 ≤ ((ji10) : Int):=zo_;have q369 : (ji10) < (l1_0.length : Int):=zo_;obtain ⟨ad369,A369_3,c369_3,e369,hx369_0,hx369_1,hx369_2,hx369_3,hl369_3,hi369_3⟩:=at_T34 HR1_0.out (ji10) p369 q369;cases e369;replace hx369_0:=(HB.out.cell (zb_ w _ hx369_0)).trans hx369_0;replace hx369_1:=(HB.out.cell (zb_ w _ hx369_1)).trans hx369_1;replace hx369_2:=(HB.out.cell (zb_ w _ hx369_2)).trans hx369_2;replace hx369_3:=(HB.out.cell (zb_ w _ hx369_3)).trans hx369_3;have HR369_3:=zm_ hi369_3;have HC369_3:=zm_ hl369_3;clear hi369_3 hl369_3;replace p369:=eq_true p369;replace q369:=eq_true q369)|((with_reducible refine gate_dst (N:=10) rfl ?_);refine box_event ?hg (N:=10) ?hd (cs:=#[.int .i64 0,.int .i64 0,.string (⟨#[]⟩ : ByteArray),.slice none 0 0]) (t:=34) ?hr ?_;(case hd => rfl);(case hg => rfl);(case hr => first|(go_simp;done)|(go_simp;rfl));intro gb370 hg w25 hbox hb;have n0_:=zm_ (Kd.R_below zt11_8 hb);have n1_:=zm_ (Kd.R_below (by (with_reducible repeat (first|apply Kd.R_alloc|apply Kd.R_drewN|apply Kd.R_drew));exact HO363.out) hb);have n2_:=zm_ (blk_below (g:=gb357) (o:=.cells #[.slice (some ad369) l1_0.length c1_0] 28 (0,0)) zt11_2 hb);have n3_:=zm_ (below_step zt11_3 hb);have n4_:=zm_ (hbox);have n5_:=zm_ ((by rw [hg];exact (below_size zt11_3) : w.heap.size ≤ gb370));have n6_:=zm_ ((by rw [hg];exact (below_size zt11_3) : w.heap.size ≤ gb370));have n7_:=zm_ ((zt11_14 : gb357 ≠ gb370));have n8_:=zm_ ((zt11_15 : gb370 ≠ gb357));clear HO360;clear HO363;clear BK357;clear HB;have HO360:=n0_;have HO363:=n1_;have BK357:=n2_;have HB:=n3_;have BK370:=n4_;have GW370:=n5_;have GE370:=n6_;have NB357_370:=n7_;have NB370_357:=n8_;clear n0_ n1_ n2_ n3_ n4_ n5_ n6_ n7_ n8_;clear hb hbox hg;have hnb26:=NB370_357.out;have hnc26:=NB357_370.out;have hcz27_0 : w25.cell? ⟨gb370,0,none⟩ = some (.int .i64 0):=(zc_ BK370.out 0).trans rfl;have hcz27_1 : w25.cell? ⟨gb370,1,none⟩ = some (.int .i64 0):=(zc_ BK370.out 1).trans rfl;have hcz27_2 : w25.cell? ⟨gb370,2,none⟩ = some (.string (⟨#[]⟩ : ByteArray)):=(zc_ BK370.out 2).trans rfl;have hcz27_3 : w25.cell? ⟨gb370,3,none⟩ = some (.slice none 0 0):=(zc_ BK370.out 3).trans rfl;have hfz27_0:=zf_ BK370.out 0;have hfz27_1:=zf_ BK370.out 1;have hfz27_2:=zf_ BK370.out 2;have hfz27_3:=zf_ BK370.out 3))
     (try simp only [Act.put,List.setIfInBounds_toArray,List.set_cons_zero,List.set_cons_succ])
     go_cut [63] (fun v63 wc => ∃ (kq : Nat) (x63_12 : Bool),v63 = .bool x63_12 ∧ Aside0 (laws_FnExprs.j0 kq t358 (Int.tmod (rd t361 0) 12) t365 t366 x63_12 l1_0 ((rd_T34 l1_0 (ji10)).f0) ((rd_T34 l1_0 (ji10)).f1) ((rd_T34 l1_0 (ji10)).f2) ((rd_T34 l1_0 (ji10)).f3) = some r) ∧ Aside0 (kq ≤ k) ∧ Aside0 (Kd.R k87 87 wc w.heap.size (fun _ => True) (.slice Ao20 t358.length co20) t358) ∧ Aside0 (wc.heap[gb357]? = some (.cells #[(.slice (some ad369) l1_0.length c1_0)] 28 (0,0))) ∧ Aside0 (wc.heap[gb370]? = some (.cells #[.int .i64 ((rd_T34 l1_0 (ji10)).f0),.int .i64 ((rd_T34 l1_0 (ji10)).f1),.string ((rd_T34 l1_0 (ji10)).f2),(.slice A369_3 ((rd_T34 l1_0 (ji10)).f3).length c369_3)] 34 (0,0))) ∧ Aside0 (Below w.heap.size w wc))
     case first =>
      have H:=HC13.out
      clear HC13
      by_cases c28 : (t366 != t368) = true
      ·rw [if_pos c28] at H
       have c28b0 : (t366 != t368) = true:=c28
       (try (have c28b1 : decide (t366 = t368) = false:=by simpa using c28))
       (try (have c28b2 : (t366 == t368) = false:=by simpa using c28))
       (try (have c28b3 : ¬ (t366 = t368):=by simpa using c28))
       clear c28
       (first|rw [c28b0]|(simp only [i64_w,i32_w];rw [c28b0])|skip)
       have H':=zm_ H
       clear H
       go_wp2
       go_meet
       case rel => exact ⟨_,(true),zV_,H',⟨by first|omega|exact Nat.le_refl _⟩,⟨by (with_reducible repeat (first|apply Kd.R_alloc|apply Kd.R_drewN|apply Kd.R_drew));exact Kd.R_mono (Kd.R_far (p:=⟨gb370,3,none⟩) (Kd.R_far (p:=⟨gb370,2,none⟩) (Kd.R_far (p:=⟨gb370,1,none⟩) (Kd.R_far (p:=⟨gb370,0,none⟩) (Kd.R_types HO360.out BK370.out (by decide)) (fun _ hk => hk.2) (.int .i64 ((rd_T34 l1_0 (ji10)).f0))) (fun _ hk => hk.2) (.int .i64 ((rd_T34 l1_0 (ji10)).f1))) (fun _ hk => hk.2) (.string ((rd_T34 l1_0 (ji10)).f2))) (fun _ hk => hk.2) (.slice A369_3 ((rd_T34 l1_0 (ji10)).f3).length c369_3)) (fun _ hk => trivial)⟩,⟨by (with_reducible repeat first|refine zl_ ?_ _|refine zr_ ?_|refine zk_ ?_ _);refine blk_far ?_ NB357_370.out _;(with_reducible repeat first|refine zl_ ?_ _|refine zr_ ?_|refine zk_ ?_ _);refine blk_far ?_ NB357_370.out _;(with_reducible repeat first|refine zl_ ?_ _|refine zr_ ?_|refine zk_ ?_ _);refine blk_far ?_ NB357_370.out _;(with_reducible repeat first|refine zl_ ?_ _|refine zr_ ?_|refine zk_ ?_ _);refine blk_far ?_ NB357_370.out _;(with_reducible repeat first|refine zl_ ?_ _|refine zr_ ?_|refine zk_ ?_ _);exact BK357.out⟩,⟨by (with_reducible repeat first|refine zl_ ?_ _|refine zr_ ?_|refine zk_ ?_ _);refine blk_put (cs:=#[.int .i64 ((rd_T34 l1_0 (ji10)).f0),.int .i64 ((rd_T34 l1_0 (ji10)).f1),.string ((rd_T34 l1_0 (ji10)).f2),.slice none 0 0]) ?_ 3 _ rfl;(with_reducible repeat first|refine zl_ ?_ _|refine zr_ ?_|refine zk_ ?_ _);refine blk_put (cs:=#[.int .i64 ((rd_T34 l1_0 (ji10)).f0),.int .i64 ((rd_T34 l1_0 (ji10)).f1),.string (⟨#[]⟩ : ByteArray),.slice none 0 0]) ?_ 2 _ rfl;(with_reducible repeat first|refine zl_ ?_ _|refine zr_ ?_|refine zk_ ?_ _);refine blk_put (cs:=#[.int .i64 ((rd_T34 l1_0 (ji10)).f0),.int .i64 0,.string (⟨#[]⟩ : ByteArray),.slice none 0 0]) ?_ 1 _ rfl;(with_reducible repeat first|refine zl_ ?_ _|refine zr_ ?_|refine zk_ ?_ _);refine blk_put (cs:=#[.int .i64 0,.int .i64 0,.string (⟨#[]⟩ : ByteArray),.slice none 0 0]) ?_ 0 _ rfl;(with_reducible repeat first|refine zl_ ?_ _|refine zr_ ?_|refine zk_ ?_ _);exact BK370.out⟩,⟨by repeat (first|(with_reducible first|exact HB.out|apply za_|apply zn_|apply zd_|refine zs_ ?_ GE357.out|refine zs_ ?_ GE370.out)|exact HB.out)⟩⟩
      ·rw [if_neg c28] at H
       have c28b0 : (t366 != t368) = false:=by simpa using c28
       (try (have c28b1 : decide (t366 = t368) = true:=by simpa using c28))
       (try (have c28b2 : (t366 == t368) = true:=by simpa using c28))
       clear c28
       (first|rw [c28b0]|(simp only [i64_w,i32_w];rw [c28b0])|skip)
       by_cases c29 : t365 = t367
       ·rw [if_pos c29] at H
        have c29b0 : (t365 == t367) = true:=beq_iff_eq.mpr c29
        have c29b1 : (t365 != t367) = false:=bne_eq_false_iff_eq.mpr c29
        clear c29
        replace H:=Option.bind_eq_some_iff.mp H
        obtain ⟨t371,A300,H⟩:=H
        replace H : (laws_FnExprs.j0 k t358 (Int.tmod (rd t361 0) 12) t365 t366 (!t371) l1_0 ((rd_T34 l1_0 (ji10)).f0) ((rd_T34 l1_0 (ji10)).f1) ((rd_T34 l1_0 (ji10)).f2) ((rd_T34 l1_0 (ji10)).f3)) = some r:=H
        have A30:=zm_ A300
        clear A300
        have H':=zm_ H
        clear H
        have hnb31:=NB357_370.out
        have hnc31:=NB370_357.out
        have hcz32_0 : w25.cell? ⟨gb357,0,none⟩ = some (.slice (some ad369) l1_0.length c1_0):=(zc_ BK357.out 0).trans rfl
        have hfz32_0:=zf_ BK357.out 0
        go_wp2_with (first|(go_at_call 14;(with_reducible refine (impl_ExprOk.calls k _ _ l1_0 t371 _ ?side1 ?side2 A30.out).mono ?_);(case side1 => exact Kd.C_below HR1_0.out zt11_1);(case side2 => exact HC1_0.out);rintro e w33 ⟨rfl,hb⟩;have n0_:=zm_ (Kd.R_below (by (with_reducible repeat (first|apply Kd.R_alloc|apply Kd.R_drewN|apply Kd.R_drew));exact (Kd.R_mono (Kd.R_far (p:=⟨gb370,3,none⟩) (Kd.R_far (p:=⟨gb370,2,none⟩) (Kd.R_far (p:=⟨gb370,1,none⟩) (Kd.R_far (p:=⟨gb370,0,none⟩) (Kd.R_types HO360.out BK370.out (by decide)) (fun _ hk => hk.2) (.int .i64 ((rd_T34 l1_0 (ji10)).f0))) (fun _ hk => hk.2) (.int .i64 ((rd_T34 l1_0 (ji10)).f1))) (fun _ hk => hk.2) (.string ((rd_T34 l1_0 (ji10)).f2))) (fun _ hk => hk.2) (.slice A369_3 ((rd_T34 l1_0 (ji10)).f3).length c369_3)) (fun _ h_ => h_.1))) hb);have n1_:=zm_ (Kd.R_below (by (with_reducible repeat (first|apply Kd.R_alloc|apply Kd.R_drewN|apply Kd.R_drew));exact (Kd.R_mono (Kd.R_far (p:=⟨gb370,3,none⟩) (Kd.R_far (p:=⟨gb370,2,none⟩) (Kd.R_far (p:=⟨gb370,1,none⟩) (Kd.R_far (p:=⟨gb370,0,none⟩) (Kd.R_types HO363.out BK370.out (by decide)) (fun _ hk => hk.2) (.int .i64 ((rd_T34 l1_0 (ji10)).f0))) (fun _ hk => hk.2) (.int .i64 ((rd_T34 l1_0 (ji10)).f1))) (fun _ hk => hk.2) (.string ((rd_T34 l1_0 (ji10)).f2))) (fun _ hk => hk.2) (.slice A369_3 ((rd_T34 l1_0 (ji10)).f3).length c369_3)) (fun _ h_ => h_.1))) hb);have n2_:=zm_ (blk_below (g:=gb357) (o:=.cells #[.slice (some ad369) l1_0.length c1_0] 28 (0,0)) (by (with_reducible repeat first|refine zl_ ?_ _|refine zr_ ?_|refine zk_ ?_ _);refine blk_far ?_ NB357_370.out _;(with_reducible repeat first|refine zl_ ?_ _|refine zr_ ?_|refine zk_ ?_ _);refine blk_far ?_ NB357_370.out _;(with_reducible repeat first|refine zl_ ?_ _|refine zr_ ?_|refine zk_ ?_ _);refine blk_far ?_ NB357_370.out _;(with_reducible repeat first|refine zl_ ?_ _|refine zr_ ?_|refine zk_ ?_ _);refine blk_far ?_ NB357_370.out _;(with_reducible repeat first|refine zl_ ?_ _|refine zr_ ?_|refine zk_ ?_ _);exact BK357.out) hb);have n3_:=zm_ (blk_below (g:=gb370) (o:=.cells #[.int .i64 ((rd_T34 l1_0 (ji10)).f0),.int .i64 ((rd_T34 l1_0 (ji10)).f1),.string ((rd_T34 l1_0 (ji10)).f2),.slice A369_3 ((rd_T34 l1_0 (ji10)).f3).length c369_3] 34 (0,0)) (by (with_reducible repeat first|refine zl_ ?_ _|refine zr_ ?_|refine zk_ ?_ _);refine blk_put (cs:=#[.int .i64 ((rd_T34 l1_0 (ji10)).f0),.int .i64 ((rd_T34 l1_0 (ji10)).f1),.string ((rd_T34 l1_0 (ji10)).f2),.slice none 0 0]) ?_ 3 _ rfl;(with_reducible repeat first|refine zl_ ?_ _|refine zr_ ?_|refine zk_ ?_ _);refine blk_put (cs:=#[.int .i64 ((rd_T34 l1_0 (ji10)).f0),.int .i64 ((rd_T34 l1_0 (ji10)).f1),.string (⟨#[]⟩ : ByteArray),.slice none 0 0]) ?_ 2 _ rfl;(with_reducible repeat first|refine zl_ ?_ _|refine zr_ ?_|refine zk_ ?_ _);refine blk_put (cs:=#[.int .i64 ((rd_T34 l1_0 (ji10)).f0),.int .i64 0,.string (⟨#[]⟩ : ByteArray),.slice none 0 0]) ?_ 1 _ rfl;(with_reducible repeat first|refine zl_ ?_ _|refine zr_ ?_|refine zk_ ?_ _);refine blk_put (cs:=#[.int .i64 0,.int .i64 0,.string (⟨#[]⟩ : ByteArray),.slice none 0 0]) ?_ 0 _ rfl;(with_reducible repeat first|refine zl_ ?_ _|refine zr_ ?_|refine zk_ ?_ _);exact BK370.out) hb);have n4_:=zm_ (below_step zt11_1 hb);clear HO360;clear HO363;clear BK357;clear BK370;clear HB;have HO360:=n0_;have HO363:=n1_;have BK357:=n2_;have BK370:=n3_;have HB:=n4_;clear n0_ n1_ n2_ n3_ n4_;(try clear hb)))
        go_meet
        case rel => exact ⟨_,(!t371),zV_,H',⟨by first|omega|exact Nat.le_refl _⟩,⟨by (with_reducible repeat (first|apply Kd.R_alloc|apply Kd.R_drewN|apply Kd.R_drew));exact HO360.out⟩,⟨by (with_reducible repeat first|refine zl_ ?_ _|refine zr_ ?_|refine zk_ ?_ _);exact BK357.out⟩,⟨by (with_reducible repeat first|refine zl_ ?_ _|refine zr_ ?_|refine zk_ ?_ _);exact BK370.out⟩,⟨by repeat (first|(with_reducible first|exact HB.out|apply za_|apply zn_|apply zd_|refine zs_ ?_ GE357.out|refine zs_ ?_ GE370.out)|exact HB.out)⟩⟩
       ·rw [if_neg c29] at H
        have c29b0 : (t365 == t367) = false:=beq_eq_false_iff_ne.mpr c29
        have c29b1 : (t365 != t367) = true:=bne_iff_ne.mpr c29
        have H':=zm_ H
        clear H
        go_wp2
        go_meet
        case rel => exact ⟨_,(true),zV_,H',⟨by first|omega|exact Nat.le_refl _⟩,⟨by (with_reducible repeat (first|apply Kd.R_alloc|apply Kd.R_drewN|apply Kd.R_drew));exact Kd.R_mono (Kd.R_far (p:=⟨gb370,3,none⟩) (Kd.R_far (p:=⟨gb370,2,none⟩) (Kd.R_far (p:=⟨gb370,1,none⟩) (Kd.R_far (p:=⟨gb370,0,none⟩) (Kd.R_types HO360.out BK370.out (by decide)) (fun _ hk => hk.2) (.int .i64 ((rd_T34 l1_0 (ji10)).f0))) (fun _ hk => hk.2) (.int .i64 ((rd_T34 l1_0 (ji10)).f1))) (fun _ hk => hk.2) (.string ((rd_T34 l1_0 (ji10)).f2))) (fun _ hk => hk.2) (.slice A369_3 ((rd_T34 l1_0 (ji10)).f3).length c369_3)) (fun _ hk => trivial)⟩,⟨by (with_reducible repeat first|refine zl_ ?_ _|refine zr_ ?_|refine zk_ ?_ _);refine blk_far ?_ NB357_370.out _;(with_reducible repeat first|refine zl_ ?_ _|refine zr_ ?_|refine zk_ ?_ _);refine blk_far ?_ NB357_370.out _;(with_reducible repeat first|refine zl_ ?_ _|refine zr_ ?_|refine zk_ ?_ _);refine blk_far ?_ NB357_370.out _;(with_reducible repeat first|refine zl_ ?_ _|refine zr_ ?_|refine zk_ ?_ _);refine blk_far ?_ NB357_370.out _;(with_reducible repeat first|refine zl_ ?_ _|refine zr_ ?_|refine zk_ ?_ _);exact BK357.out⟩,⟨by (with_reducible repeat first|refine zl_ ?_ _|refine zr_ ?_|refine zk_ ?_ _);refine blk_put (cs:=#[.int .i64 ((rd_T34 l1_0 (ji10)).f0),.int .i64 ((rd_T34 l1_0 (ji10)).f1),.string ((rd_T34 l1_0 (ji10)).f2),.slice none 0 0]) ?_ 3 _ rfl;(with_reducible repeat first|refine zl_ ?_ _|refine zr_ ?_|refine zk_ ?_ _);refine blk_put (cs:=#[.int .i64 ((rd_T34 l1_0 (ji10)).f0),.int .i64 ((rd_T34 l1_0 (ji10)).f1),.string (⟨#[]⟩ : ByteArray),.slice none 0 0]) ?_ 2 _ rfl;(with_reducible repeat first|refine zl_ ?_ _|refine zr_ ?_|refine zk_ ?_ _);refine blk_put (cs:=#[.int .i64 ((rd_T34 l1_0 (ji10)).f0),.int .i64 0,.string (⟨#[]⟩ : ByteArray),.slice none 0 0]) ?_ 1 _ rfl;(with_reducible repeat first|refine zl_ ?_ _|refine zr_ ?_|refine zk_ ?_ _);refine blk_put (cs:=#[.int .i64 0,.int .i64 0,.string (⟨#[]⟩ : ByteArray),.slice none 0 0]) ?_ 0 _ rfl;(with_reducible repeat first|refine zl_ ?_ _|refine zr_ ?_|refine zk_ ?_ _);exact BK370.out⟩,⟨by repeat (first|(with_reducible first|exact HB.out|apply za_|apply zn_|apply zd_|refine zs_ ?_ GE357.out|refine zs_ ?_ GE370.out)|exact HB.out)⟩⟩
     case rest =>
      clear HC13
      try clear c1
      try clear c2
      try clear p2
      try clear c3
      try clear p3
      try clear q3
      try clear hx3
      try clear qi3
      try clear c4
      try clear p6
      try clear c7
      try clear c7b0
      try clear c7b1
      try clear c9
      try clear c10
      try clear c11
      try clear c11b0
      try clear c12
      try clear c12b0
      try clear c17
      try clear c18
      try clear c26
      try clear c28
      try clear c28b0
      try clear c28b1
      try clear c28b2
      try clear c29
      try clear c29b0
      try clear c29b1
      try clear c31
      try clear hcz15_0
      try clear hcz19_0
      try clear hcz22_0
      try clear hcz24_0
      try clear hcz27_0
      try clear hcz27_1
      try clear hcz27_2
      try clear hcz27_3
      try clear hcz32_0
      try clear hfz15_0
      try clear hfz19_0
      try clear hfz22_0
      try clear hfz24_0
      try clear hfz27_0
      try clear hfz27_1
      try clear hfz27_2
      try clear hfz27_3
      try clear hfz32_0
      try clear hx364_0
      try clear hx369_0
      try clear hx369_1
      try clear hx369_2
      try clear hx369_3
      try clear p364
      try clear p369
      try clear q364
      try clear q369
      obtain ⟨kq,x63_12,rfl,HA,HJ12,HO_4,BK357,BK370,HB⟩:=hcut
      cases kq with
      |zero => exact absurd HA.out (by simp [laws_FnExprs.j0])
      |succ kj12 =>
       have H:=HA.out
       clear HA
       simp only [laws_FnExprs.j0] at H
       by_cases c34 : x63_12 = true
       ·subst c34
        have H1 : (none) = some r:=by rw [if_pos rfl] at H;exact H
        clear H
        have H:=H1
        clear H1
        exact absurd H (by simp)
       ·replace c34:=Bool.eq_false_iff.mpr c34
        subst c34
        have H1 : (laws_FnExprs.l0 kj12 t358 (Int.tmod (rd t361 0) 12) t365 t366 (([] : List Int)) 0 l1_0 ((rd_T34 l1_0 (ji10)).f0) ((rd_T34 l1_0 (ji10)).f1) ((rd_T34 l1_0 (ji10)).f2) ((rd_T34 l1_0 (ji10)).f3)) = some r:=by rw [if_neg (show ¬ (false = true) by decide)] at H;exact H
        clear H
        have H:=H1
        clear H1
        obtain ⟨y372,hy372⟩ : ∃ y_ : List Int,y_ = (([] : List Int)):=⟨_,rfl⟩
        replace H : (laws_FnExprs.l0 kj12 t358 (Int.tmod (rd t361 0) 12) t365 t366 y372 0 l1_0 ((rd_T34 l1_0 (ji10)).f0) ((rd_T34 l1_0 (ji10)).f1) ((rd_T34 l1_0 (ji10)).f2) ((rd_T34 l1_0 (ji10)).f3)) = some r:=by first|(rw [hy372];with_reducible exact H)|(have H2_:=(Option.bind_some _ _).symm.trans H;rw [hy372];with_reducible exact H2_)|(have H2_:=(Option.bind_some _ _).symm.trans H;with_reducible exact H2_)|with_reducible exact H|(rw [hy372];exact H)|exact H
        have Ny372:=zm_ hy372
        clear hy372
        have H':=zm_ H
        clear H
        go_wp2_with (first|((with_reducible refine gate_dst (N:=64) rfl ?_);refine Kd.R_lit (Kd.int .i64) _ 3 ?hg (N:=64) ?hd (xs:=([] : List Int)) (inner:=[]) (ok:=fun _ => True) (okp:=fun _ => True) ?hr ?hp (fun _ hk => hk) trivial (Below.refl _ _) (Nat.le_refl _) (by simp) ?_;(case hd => rfl);(case hg => rfl);(case hr => first|(go_simp;done)|(go_simp;rfl));(case hp => exact (Reps.none _ _));intro v373 w35 ho36 hb hg_ hnew_;clear hg_ hnew_;(first|rw [← Ny372.out] at ho36|(simp only [Int.reduceToNat] at ho36;rw [← Ny372.out] at ho36));have n0_:=zm_ (Kd.R_below zt11_10 hb);have n1_:=zm_ (Kd.R_lower ho36 (below_size zt11_1));have n2_:=zm_ (blk_below (g:=gb357) (o:=.cells #[.slice (some ad369) l1_0.length c1_0] 28 (0,0)) zt11_2 hb);have n3_:=zm_ (blk_below (g:=gb370) (o:=.cells #[.int .i64 ((rd_T34 l1_0 (ji10)).f0),.int .i64 ((rd_T34 l1_0 (ji10)).f1),.string ((rd_T34 l1_0 (ji10)).f2),.slice A369_3 ((rd_T34 l1_0 (ji10)).f3).length c369_3] 34 (0,0)) zt11_6 hb);have n4_:=zm_ (below_step zt11_1 hb);clear HO_4;clear BK357;clear BK370;clear HB;have HO_4:=n0_;have HO374:=n1_;have BK357:=n2_;have BK370:=n3_;have HB:=n4_;clear n0_ n1_ n2_ n3_ n4_;clear hb ho36))
        go_loopg [11,12] kj12 (fun kq v11 v12 w' => ∃ (x11_2 : List Int) (x12_2 : Int),v12 = .int .i64 x12_2 ∧ Aside0 (laws_FnExprs.l0 kq t358 (Int.tmod (rd t361 0) 12) t365 t366 x11_2 x12_2 l1_0 ((rd_T34 l1_0 (ji10)).f0) ((rd_T34 l1_0 (ji10)).f1) ((rd_T34 l1_0 (ji10)).f2) ((rd_T34 l1_0 (ji10)).f3) = some r) ∧ Aside0 (kq ≤ kj12) ∧ Aside0 (Kd.R k87 87 w' w.heap.size (fun _ => True) (.slice Ao20 t358.length co20) t358) ∧ Aside0 (Kd.R (Kd.int .i64) 3 w' w.heap.size (fun _ => True) v11 x11_2) ∧ Aside0 (w'.heap[gb357]? = some (.cells #[(.slice (some ad369) l1_0.length c1_0)] 28 (0,0))) ∧ Aside0 (w'.heap[gb370]? = some (.cells #[.int .i64 ((rd_T34 l1_0 (ji10)).f0),.int .i64 ((rd_T34 l1_0 (ji10)).f1),.string ((rd_T34 l1_0 (ji10)).f2),(.slice A369_3 ((rd_T34 l1_0 (ji10)).f3).length c369_3)] 34 (0,0))) ∧ Aside0 (Below w.heap.size w w'))
        case atStart => exact ⟨(y372),(0),zV_,H',⟨Nat.le_refl _⟩,⟨by (with_reducible repeat (first|apply Kd.R_alloc|apply Kd.R_drewN|apply Kd.R_drew));exact HO_4.out⟩,⟨by (with_reducible repeat (first|apply Kd.R_alloc|apply Kd.R_drewN|apply Kd.R_drew));exact HO374.out⟩,⟨by (with_reducible repeat first|refine zl_ ?_ _|refine zr_ ?_|refine zk_ ?_ _);exact BK357.out⟩,⟨by (with_reducible repeat first|refine zl_ ?_ _|refine zr_ ?_|refine zk_ ?_ _);exact BK370.out⟩,⟨by repeat (first|(with_reducible first|exact HB.out|apply za_|apply zn_|apply zd_|refine zs_ ?_ GE357.out|refine zs_ ?_ GE370.out)|exact HB.out)⟩⟩
        case round =>
         clear H'
         try clear c1
         try clear c2
         try clear p2
         try clear c3
         try clear p3
         try clear q3
         try clear hx3
         try clear qi3
         try clear c4
         try clear p6
         try clear c7
         try clear c7b0
         try clear c7b1
         try clear c9
         try clear c10
         try clear c11
         try clear c11b0
         try clear c12
         try clear c12b0
         try clear c17
         try clear c18
         try clear c26
         try clear c28
         try clear c28b0
         try clear c28b1
         try clear c28b2
         try clear c29
         try clear c29b0
         try clear c29b1
         try clear c31
         try clear c34
         try clear c36
         try clear p36
         try clear q36
         try clear hx36
         try clear qi36
         try clear hcz15_0
         try clear hcz19_0
         try clear hcz22_0
         try clear hcz24_0
         try clear hcz27_0
         try clear hcz27_1
         try clear hcz27_2
         try clear hcz27_3
         try clear hcz32_0
         try clear hfz15_0
         try clear hfz19_0
         try clear hfz22_0
         try clear hfz24_0
         try clear hfz27_0
         try clear hfz27_1
         try clear hfz27_2
         try clear hfz27_3
         try clear hfz32_0
         try clear hx364_0
         try clear hx369_0
         try clear hx369_1
         try clear hx369_2
         try clear hx369_3
         try clear p2
         try clear p3
         try clear p364
         try clear p369
         try clear p6
         try clear q3
         try clear q364
         try clear q369
         obtain ⟨x11_2,x12_2,rfl,HA,HK2,HO_4,HO_11,BK357,BK370,HB⟩:=hrel
         cases gk with
         |zero => exact absurd HA.out (by simp [laws_FnExprs.l0])
         |succ k2 =>
          have H:=HA.out
          clear HA
          simp only [laws_FnExprs.l0] at H
          by_cases c37 : x12_2 < (((rd_T34 l1_0 (ji10)).f3).length : Int)
          ·rw [if_pos c37] at H
           have c37b0 : decide (x12_2 < (((rd_T34 l1_0 (ji10)).f3).length : Int)) = true:=decide_eq_true c37
           clear c37
           by_cases c38 : 0 ≤ x12_2
           ·rw [if_pos c38] at H
            have c38b0 : decide (0 ≤ x12_2) = true:=decide_eq_true c38
            clear c38
            obtain ⟨ji39,hji39⟩ : ∃ j_ : Int,(wrap64 ((rd ((rd_T34 l1_0 (ji10)).f3) x12_2) + 1)) = j_:=⟨_,rfl⟩
            replace H : (if 0 ≤ (ji39) then (if (ji39) ≤ (l1_0.length : Int) then ((impl_EvalExpr.f k2 (l1_0.take ((ji39) : Int).toNat) t358 (Int.tmod (rd t361 0) 12)).bind fun bt381 => (if bt381.2 = true then (if x11_2.length < 17592186044416 then (laws_FnExprs.l0 k2 t358 (Int.tmod (rd t361 0) 12) t365 t366 (x11_2 ++ [bt381.1]) (wrap64 (x12_2 + 1)) l1_0 ((rd_T34 l1_0 (ji10)).f0) ((rd_T34 l1_0 (ji10)).f1) ((rd_T34 l1_0 (ji10)).f2) ((rd_T34 l1_0 (ji10)).f3)) else (none)) else (some (!t366)))) else (none)) else (none)) = some r:=by first|(rw [hji39] at H;exact H)|(simp only [hji39] at H ⊢;exact H)
            have hji39w : (IntKind.i64.wrap ((rd ((rd_T34 l1_0 (ji10)).f3) x12_2) + 1)) = ji39:=(i64_w _).trans hji39
            by_cases c40 : 0 ≤ (ji39)
            ·rw [if_pos c40] at H
             have c40b0:=eq_true c40
             have c40b1 : decide (0 ≤ (ji39)) = true:=decide_eq_true c40
             clear c40
             by_cases c41 : (ji39) ≤ (l1_0.length : Int)
             ·rw [if_pos c41] at H
              have c41b0:=eq_true c41
              have c41b1 : decide ((ji39) ≤ (l1_0.length : Int)) = true:=decide_eq_true c41
              clear c41
              obtain ⟨y376,hy376⟩ : ∃ y_ : List (S34),y_ = (l1_0.take ((ji39) : Int).toNat):=⟨_,rfl⟩
              replace H : ((impl_EvalExpr.f k2 y376 t358 (Int.tmod (rd t361 0) 12)).bind fun bt381 => (if bt381.2 = true then (if x11_2.length < 17592186044416 then (laws_FnExprs.l0 k2 t358 (Int.tmod (rd t361 0) 12) t365 t366 (x11_2 ++ [bt381.1]) (wrap64 (x12_2 + 1)) l1_0 ((rd_T34 l1_0 (ji10)).f0) ((rd_T34 l1_0 (ji10)).f1) ((rd_T34 l1_0 (ji10)).f2) ((rd_T34 l1_0 (ji10)).f3)) else (none)) else (some (!t366)))) = some r:=by first|(rw [hy376];with_reducible exact H)|(have H2_:=(Option.bind_some _ _).symm.trans H;rw [hy376];with_reducible exact H2_)|(have H2_:=(Option.bind_some _ _).symm.trans H;with_reducible exact H2_)|with_reducible exact H|(rw [hy376];exact H)|exact H
              have Ny376:=zm_ hy376
              clear hy376
              replace H:=Option.bind_eq_some_iff.mp H
              obtain ⟨⟨t381,t382⟩,A420,H⟩:=H
              replace H : (if t382 = true then (if x11_2.length < 17592186044416 then (laws_FnExprs.l0 k2 t358 (Int.tmod (rd t361 0) 12) t365 t366 (x11_2 ++ [t381]) (wrap64 (x12_2 + 1)) l1_0 ((rd_T34 l1_0 (ji10)).f0) ((rd_T34 l1_0 (ji10)).f1) ((rd_T34 l1_0 (ji10)).f2) ((rd_T34 l1_0 (ji10)).f3)) else (none)) else (some (!t366))) = some r:=H
              have A42:=zm_ A420
              clear A420
              by_cases c43 : t382 = true
              ·subst c43
               have H1 : (if x11_2.length < 17592186044416 then (laws_FnExprs.l0 k2 t358 (Int.tmod (rd t361 0) 12) t365 t366 (x11_2 ++ [t381]) (wrap64 (x12_2 + 1)) l1_0 ((rd_T34 l1_0 (ji10)).f0) ((rd_T34 l1_0 (ji10)).f1) ((rd_T34 l1_0 (ji10)).f2) ((rd_T34 l1_0 (ji10)).f3)) else (none)) = some r:=by rw [if_pos rfl] at H;exact H
               clear H
               have H:=H1
               clear H1
               by_cases c44 : x11_2.length < 17592186044416
               ·rw [if_pos c44] at H
                have LMc44:=zm_ c44
                clear c44
                obtain ⟨y383,hy383⟩ : ∃ y_ : List Int,y_ = (x11_2 ++ [t381]):=⟨_,rfl⟩
                replace H : (laws_FnExprs.l0 k2 t358 (Int.tmod (rd t361 0) 12) t365 t366 y383 (wrap64 (x12_2 + 1)) l1_0 ((rd_T34 l1_0 (ji10)).f0) ((rd_T34 l1_0 (ji10)).f1) ((rd_T34 l1_0 (ji10)).f2) ((rd_T34 l1_0 (ji10)).f3)) = some r:=by first|(rw [hy383];with_reducible exact H)|(have H2_:=(Option.bind_some _ _).symm.trans H;rw [hy383];with_reducible exact H2_)|(have H2_:=(Option.bind_some _ _).symm.trans H;with_reducible exact H2_)|with_reducible exact H|(rw [hy383];exact H)|exact H
                have Ny383:=zm_ hy383
                clear hy383
                have H':=zm_ H
                clear H
                have hnb45:=NB370_357.out
                have hnc45:=NB357_370.out
                have hcz46_0 : wr.cell? ⟨gb370,0,none⟩ = some (.int .i64 ((rd_T34 l1_0 (ji10)).f0)):=(zc_ BK370.out 0).trans rfl
                have hcz46_1 : wr.cell? ⟨gb370,1,none⟩ = some (.int .i64 ((rd_T34 l1_0 (ji10)).f1)):=(zc_ BK370.out 1).trans rfl
                have hcz46_2 : wr.cell? ⟨gb370,2,none⟩ = some (.string ((rd_T34 l1_0 (ji10)).f2)):=(zc_ BK370.out 2).trans rfl
                have hcz46_3 : wr.cell? ⟨gb370,3,none⟩ = some (.slice A369_3 ((rd_T34 l1_0 (ji10)).f3).length c369_3):=(zc_ BK370.out 3).trans rfl
                have hfz46_0:=zf_ BK370.out 0
                have hfz46_1:=zf_ BK370.out 1
                have hfz46_2:=zf_ BK370.out 2
                have hfz46_3:=zf_ BK370.out 3
                try go_wp2
                have n0_:=zm_ (Kd.R_drew HO_4.out)
                have n1_:=zm_ (Kd.R_drew HO_11.out)
                have n2_:=zm_ (zr_ BK357.out)
                have n3_:=zm_ (zr_ BK370.out)
                have n4_:=zm_ (zd_ HB.out)
                clear HO_4
                clear HO_11
                clear BK357
                clear BK370
                clear HB
                have HO_4:=n0_
                have HO_11:=n1_
                have BK357:=n2_
                have BK370:=n3_
                have HB:=n4_
                clear n0_ n1_ n2_ n3_ n4_
                have p375 : 0 ≤ (x12_2 : Int):=zo_
                have q375 : x12_2 < (((rd_T34 l1_0 (ji10)).f3).length : Int):=zo_
                obtain ⟨ad375,e375,hx375_0⟩:=Kd.at_int HR369_3.out x12_2 p375 q375
                have hw375_0:=hx375_0
                cases e375
                replace hx375_0:=(HB.out.cell (zb_ w _ hx375_0)).trans hx375_0
                replace p375:=eq_true p375
                replace q375:=eq_true q375
                have q48 : ((ji39) : Int) ≤ ((l1_0.length : Int) : Int):=zo_
                obtain ⟨i048,hi048,_,hsz48,_⟩:=info_parts info34
                have hroom48 : l1_0.length ≤ c1_0:=HC1_0.out
                have hC48 : Kd.C k34 _ (some ad369) l1_0.length l1_0:=HR1_0.out
                have hcut48:=cut_to (P:=Try.prog) 26 34 .i64 Try.underlying26 hi048 (some ad369) l1_0.length c1_0 (ji39) (zo_) q48 hroom48
                have hr48:=Kd.C_take (m:=((ji39) : Int).toNat) hC48 (by omega)
                have hy48 : y376.length = ((ji39) : Int).toNat:=(by rw [Ny376.out,List.length_take];omega)
                rw [← Ny376.out] at hr48
                rw [← hy48] at hcut48
                have HR379:=zm_ hr48
                have HC379:=zm_ (show y376.length ≤ c1_0 from by omega)
                clear hr48 hC48 hroom48 hi048 hsz48
                have KY48:=zm_ hy48
                clear hy48
                replace q48:=eq_true q48
                refine start_ (n:=12) (S:=fun w' => w'.cell? ⟨gb357,0,none⟩ = some (.slice (some ad369) l1_0.length c1_0) ∧ w'.cell? ⟨gb370,0,none⟩ = some (.int .i64 ((rd_T34 l1_0 (ji10)).f0)) ∧ w'.cell? ⟨gb370,1,none⟩ = some (.int .i64 ((rd_T34 l1_0 (ji10)).f1)) ∧ w'.cell? ⟨gb370,2,none⟩ = some (.string ((rd_T34 l1_0 (ji10)).f2)) ∧ w'.cell? ⟨gb370,3,none⟩ = some (.slice (some ad375) ((rd_T34 l1_0 (ji10)).f3).length c369_3) ∧ w'.cell? (ad375.add (x12_2).toNat) = some (.int .i64 (rd ((rd_T34 l1_0 (ji10)).f3) x12_2))) (ds:=[]) #[false,false,false,false,false,false,false,false,false,false,false,false] (by kernel_rfl) rfl rfl ⟨(zc_ BK357.out 0).trans rfl,(zc_ BK370.out 0).trans rfl,(zc_ BK370.out 1).trans rfl,(zc_ BK370.out 2).trans rfl,(zc_ BK370.out 3).trans rfl,((HB.out.cell (zb_ w _ hw375_0)).trans hw375_0)⟩ (fun hHeld => ?_);refine with_tabW laws_FnExprs.tab15 laws_FnExprs.bits15 (fun HT_ HW_ => ?_)
                generalize wr.drew = w47 at HO_4 HO_11 BK357 BK370 HB HR379 hx375_0 hHeld ⊢
                refine pure_ (i:=0) (N:=some 72) (v:=?_) (a':=?_) #[true,false,false,false,false,false,false,false,false,false,false,false] rfl rfl (any_of HT_.out (by kernel_rfl)) (fun _ _ _ h => h) (Or.inl ⟨by rfl,?_⟩) ?_ ?_
                rotate_left
                ·intro w'
                 go_simp
                 with_reducible rfl
                rotate_left
                ·simp only [Act.put,List.setIfInBounds_toArray,List.set_cons_zero,List.set_cons_succ,i64_w,i32_w,IntKind.wrap_u8]
                 rfl
                refine pure_ (i:=2) (N:=some 74) (v:=?_) (a':=?_) #[true,false,true,false,false,false,false,false,false,false,false,false] rfl rfl (any_of HT_.out (by kernel_rfl)) (fun _ _ _ h => h) (Or.inl ⟨by rfl,?_⟩) ?_ ?_
                rotate_left
                ·intro w'
                 go_simp
                 with_reducible rfl
                rotate_left
                ·simp only [Act.put,List.setIfInBounds_toArray,List.set_cons_zero,List.set_cons_succ,i64_w,i32_w,IntKind.wrap_u8]
                 rfl
                refine pure_ (i:=4) (N:=some 76) (v:=?_) (a':=?_) #[true,false,true,false,true,false,false,false,false,false,false,false] rfl rfl (any_of HT_.out (by kernel_rfl)) (fun _ _ _ h => h) (Or.inl ⟨by rfl,?_⟩) ?_ ?_
                rotate_left
                ·intro w'
                 go_simp
                 with_reducible rfl
                rotate_left
                ·simp only [Act.put,List.setIfInBounds_toArray,List.set_cons_zero,List.set_cons_succ,i64_w,i32_w,IntKind.wrap_u8]
                 rfl
                refine take_ (i:=1) (N:=some 73) (v:=?_) (a':=?_) #[true,true,true,false,true,false,false,false,false,false,false,false] rfl rfl (take_ofW HT_.out HW_.out (by kernel_rfl)) (fun _ _ _ h => h) (Or.inl ⟨by rfl,?_⟩) hHeld ?_ ?_
                rotate_left
                ·rintro w' ⟨s0,s1,s2,s3,s4,s5⟩
                 go_simp
                 with_reducible rfl
                rotate_left
                ·simp only [Act.put,List.setIfInBounds_toArray,List.set_cons_zero,List.set_cons_succ,i64_w,i32_w,IntKind.wrap_u8]
                 rfl
                refine take_ (i:=3) (N:=some 75) (v:=?_) (a':=?_) #[true,true,true,true,true,false,false,false,false,false,false,false] rfl rfl (take_ofW HT_.out HW_.out (by kernel_rfl)) (fun _ _ _ h => h) (Or.inl ⟨by rfl,?_⟩) hHeld ?_ ?_
                rotate_left
                ·rintro w' ⟨s0,s1,s2,s3,s4,s5⟩
                 go_simp
                 with_reducible rfl
                rotate_left
                ·simp only [Act.put,List.setIfInBounds_toArray,List.set_cons_zero,List.set_cons_succ,i64_w,i32_w,IntKind.wrap_u8]
                 rfl
                refine pure_ (i:=5) (N:=some 77) (v:=?_) (a':=?_) #[true,true,true,true,true,true,false,false,false,false,false,false] rfl rfl (any_of HT_.out (by kernel_rfl)) (fun _ _ _ h => h) (Or.inl ⟨by rfl,?_⟩) ?_ ?_
                rotate_left
                ·intro w'
                 go_simp
                 with_reducible rfl
                rotate_left
                ·simp only [Act.put,List.setIfInBounds_toArray,List.set_cons_zero,List.set_cons_succ,i64_w,i32_w,IntKind.wrap_u8]
                 rfl
                refine take_ (i:=6) (N:=some 78) (v:=?_) (a':=?_) #[true,true,true,true,true,true,true,false,false,false,false,false] rfl rfl (take_ofW HT_.out HW_.out (by kernel_rfl)) (fun _ _ _ h => h) (Or.inl ⟨by rfl,?_⟩) hHeld ?_ ?_
                rotate_left
                ·rintro w' ⟨s0,s1,s2,s3,s4,s5⟩
                 go_simp
                 with_reducible rfl
                rotate_left
                ·simp only [Act.put,List.setIfInBounds_toArray,List.set_cons_zero,List.set_cons_succ,i64_w,i32_w,IntKind.wrap_u8]
                 rfl
                refine pure_ (i:=7) (N:=some 79) (v:=?_) (a':=?_) #[true,true,true,true,true,true,true,true,false,false,false,false] rfl rfl (any_of HT_.out (by kernel_rfl)) (fun _ _ _ h => h) (Or.inl ⟨by rfl,?_⟩) ?_ ?_
                rotate_left
                ·intro w'
                 go_simp
                 with_reducible rfl
                rotate_left
                ·simp only [Act.put,List.setIfInBounds_toArray,List.set_cons_zero,List.set_cons_succ,i64_w,i32_w,IntKind.wrap_u8]
                 rfl
                refine pure_ (i:=8) (N:=some 80) (v:=?_) (a':=?_) #[true,true,true,true,true,true,true,true,true,false,false,false] rfl rfl (any_of HT_.out (by kernel_rfl)) (fun _ _ _ h => h) (Or.inl ⟨by rfl,?_⟩) ?_ ?_
                rotate_left
                ·intro w'
                 go_simp
                 with_reducible rfl
                rotate_left
                ·simp only [Act.put,List.setIfInBounds_toArray,List.set_cons_zero,List.set_cons_succ,i64_w,i32_w,IntKind.wrap_u8]
                 rfl
                refine pure_ (i:=9) (N:=some 81) (v:=?_) (a':=?_) #[true,true,true,true,true,true,true,true,true,true,false,false] rfl rfl (any_of HT_.out (by kernel_rfl)) (fun _ _ _ h => h) (Or.inl ⟨by rfl,?_⟩) ?_ ?_
                rotate_left
                ·intro w'
                 go_simp
                 with_reducible rfl
                rotate_left
                ·simp only [Act.put,List.setIfInBounds_toArray,List.set_cons_zero,List.set_cons_succ,i64_w,i32_w,IntKind.wrap_u8]
                 rfl
                refine one_ (i:=10) (N:=some 13) #[true,true,true,true,true,true,true,true,true,true,true,false] rfl rfl (one_of HT_.out (by kernel_rfl)) (by decide) (fun K hK => ?_)
                refine box_step ?hg (N:=13) ?hd (cs:=#[.slice none 0 0]) (t:=28) ?hr ?_;(case hd => rfl);(case hg => rfl);(case hr => first|(go_simp;done)|(go_simp;rfl))
                intro gb380 hg w49 hbox hb
                have n0_:=zm_ (Kd.R_below zt11_10 hb)
                have n1_:=zm_ (Kd.R_below zt11_9 hb)
                have n2_:=zm_ (blk_below (g:=gb357) (o:=.cells #[.slice (some ad369) l1_0.length c1_0] 28 (0,0)) zt11_2 hb)
                have n3_:=zm_ (blk_below (g:=gb370) (o:=.cells #[.int .i64 ((rd_T34 l1_0 (ji10)).f0),.int .i64 ((rd_T34 l1_0 (ji10)).f1),.string ((rd_T34 l1_0 (ji10)).f2),.slice (some ad375) ((rd_T34 l1_0 (ji10)).f3).length c369_3] 34 (0,0)) zt11_6 hb)
                have n4_:=zm_ (below_step zt11_1 hb)
                have n5_:=zm_ (hbox)
                have n6_:=zm_ ((by rw [hg];exact (below_size zt11_1) : w.heap.size ≤ gb380))
                have n7_:=zm_ ((by rw [hg];exact (below_size zt11_1) : w.heap.size ≤ gb380))
                have n8_:=zm_ ((zt11_14 : gb357 ≠ gb380))
                have n9_:=zm_ ((zt11_15 : gb380 ≠ gb357))
                have n10_:=zm_ ((zt11_11 : gb370 ≠ gb380))
                have n11_:=zm_ ((zt11_12 : gb380 ≠ gb370))
                clear HO_4
                clear HO_11
                clear BK357
                clear BK370
                clear HB
                have HO_4:=n0_
                have HO_11:=n1_
                have BK357:=n2_
                have BK370:=n3_
                have HB:=n4_
                have BK380:=n5_
                have GW380:=n6_
                have GE380:=n7_
                have NB357_380:=n8_
                have NB380_357:=n9_
                have NB370_380:=n10_
                have NB380_370:=n11_
                clear n0_ n1_ n2_ n3_ n4_ n5_ n6_ n7_ n8_ n9_ n10_ n11_
                clear hb hbox hg
                refine hK.out _ _ ⟨(zc_ BK357.out 0).trans rfl,(zc_ BK370.out 0).trans rfl,(zc_ BK370.out 1).trans rfl,(zc_ BK370.out 2).trans rfl,(zc_ BK370.out 3).trans rfl,((HB.out.cell (zb_ w _ hw375_0)).trans hw375_0)⟩ (fun hHeld => ?_)
                clear hK K
                refine norm_ (a':=?_) ?_ ?_
                rotate_left
                ·show Act.put _ (some 13) _ = _
                 simp only [Act.put,List.setIfInBounds_toArray,List.set_cons_zero,List.set_cons_succ,i64_w,i32_w,IntKind.wrap_u8]
                 rfl
                refine one_ (i:=11) (N:=none) #[true,true,true,true,true,true,true,true,true,true,true,true] rfl rfl (one_of HT_.out (by kernel_rfl)) (by decide) (fun K hK => ?_)
                have hs50 : w49.cell? ⟨gb380,0,none⟩ = some (.slice none 0 0):=(zc_ BK380.out 0).trans rfl
                have hfs50:=zf_ BK380.out 0
                have hns50_0:=NB357_380.out
                have hns50_1:=NB370_380.out
                have hms50_0:=NB380_357.out
                have hms50_1:=NB380_370.out
                refine skip_ (w1:=?_) (by rfl) rfl ?_ ?_
                rotate_left
                ·go_simp
                 rfl
                refine hK.out _ _ ⟨((cell_far (p:=⟨gb380,_,none⟩) NB357_380.out _).trans (hHeld.1)),((cell_far (p:=⟨gb380,_,none⟩) NB370_380.out _).trans (hHeld.2.1)),((cell_far (p:=⟨gb380,_,none⟩) NB370_380.out _).trans (hHeld.2.2.1)),((cell_far (p:=⟨gb380,_,none⟩) NB370_380.out _).trans (hHeld.2.2.2.1)),((cell_far (p:=⟨gb380,_,none⟩) NB370_380.out _).trans (hHeld.2.2.2.2.1)),((cell_far (p:=⟨gb380,_,none⟩) zt11_7 _).trans (hHeld.2.2.2.2.2))⟩ (fun hHeld => ?_)
                clear hK K
                refine done_ (done_of HT_.out (by kernel_rfl)) ?_
                have hnb51:=NB380_357.out
                have hnc51:=NB357_380.out
                have hnb52:=NB380_370.out
                have hnc52:=NB370_380.out
                have hcz53_0 : w49.cell? ⟨gb380,0,none⟩ = some (.slice none 0 0):=(zc_ BK380.out 0).trans rfl
                have hfz53_0:=zf_ BK380.out 0
                try go_wp2_with (first|((with_reducible refine gate_callee (f:=12) rfl ?_);refine goesL_ (some 86) rfl rfl Try.func12 (by kernel_rfl) rfl #[.agg #[.slice (some ad369) y376.length c1_0],.slice Ao20 t358.length co20,.int .i64 (Int.tmod (rd t361 0) 12)] rfl zq_ ?_;(with_reducible refine (impl_EvalExpr.calls k2 _ _ y376 _ _ t358 (Int.tmod (rd t361 0) 12) t381 true _ ?side1 ?side2 ?side3 ?side4 A42.out).mono ?_);(case side1 => exact Kd.C_below HR379.out zt11_4);(case side2 => exact HC379.out);(case side3 => refine (Kd.R_reads' (e:=87) (base:=w.heap.size) (ok:=fun k_ => True) (n:=t358.length) (c:=co20) ?_).2.2;exact zt11_5);(case side4 => exact (Kd.R_reads' HO_4.out).2.1);rintro e w54 ⟨rfl,hb⟩;refine ⟨_,rfl,?_⟩;have n0_:=zm_ (Kd.R_below zt11_5 hb);have n1_:=zm_ (Kd.R_below zt11_13 hb);have n2_:=zm_ (blk_below (g:=gb357) (o:=.cells #[.slice (some ad369) l1_0.length c1_0] 28 (0,0)) (by (with_reducible repeat first|refine zl_ ?_ _|refine zr_ ?_|refine zk_ ?_ _);refine blk_far ?_ NB357_380.out _;(with_reducible repeat first|refine zl_ ?_ _|refine zr_ ?_|refine zk_ ?_ _);exact BK357.out) hb);have n3_:=zm_ (blk_below (g:=gb370) (o:=.cells #[.int .i64 ((rd_T34 l1_0 (ji10)).f0),.int .i64 ((rd_T34 l1_0 (ji10)).f1),.string ((rd_T34 l1_0 (ji10)).f2),.slice (some ad375) ((rd_T34 l1_0 (ji10)).f3).length c369_3] 34 (0,0)) (by (with_reducible repeat first|refine zl_ ?_ _|refine zr_ ?_|refine zk_ ?_ _);refine blk_far ?_ NB370_380.out _;(with_reducible repeat first|refine zl_ ?_ _|refine zr_ ?_|refine zk_ ?_ _);exact BK370.out) hb);have n4_:=zm_ (blk_below (g:=gb380) (o:=.cells #[.slice (some ad369) y376.length c1_0] 28 (0,0)) zt11_16 hb);have n5_:=zm_ (below_step zt11_4 hb);clear HO_4;clear HO_11;clear BK357;clear BK370;clear BK380;clear HB;have HO_4:=n0_;have HO_11:=n1_;have BK357:=n2_;have BK370:=n3_;have BK380:=n4_;have HB:=n5_;clear n0_ n1_ n2_ n3_ n4_ n5_;(try clear hb))|((with_reducible refine gate_builtin (b:=.append) (xs:=#[.tmp 93,.tmp 95]) rfl ?_);at_builtin;refine Kd.R_append (Kd.int .i64) (w0:=w) w.heap.size rfl (.tmp 93) (.tmp 95) 24 3 (.int .i64 0) 8 rfl Try.underlying24 info3 rfl (by decide) (by omega) u11 x11_2 t381 [.int .i64 t381] (fun _ => True) (fun _ => False) rfl rfl ?aP (fun _ hk => hk.elim) ?aF ?aO ?aB ?aS ?aL ?_;(case aP => exact rfl);(case aB => exact zt11_4);(case aF => exact (fun _ _ => trivial));(case aO => exact zt11_9);(case aS => exact (below_size zt11_4));(case aL => have:=LMc44.out;omega);intro v384 w55 ho hb hg hat;rw [← Ny383.out] at ho;have n0_:=zm_ (Kd.R_over' zt11_10 (Kd.R_typed zt11_9) (by decide) hg);have n1_:=zm_ (blk_grown (g:=gb357) (o:=.cells #[.slice (some ad369) l1_0.length c1_0] 28 (0,0)) zt11_2 hg (Kd.R_ne HO_11.out BK357.out (by decide)));have n2_:=zm_ (blk_grown (g:=gb370) (o:=.cells #[.int .i64 ((rd_T34 l1_0 (ji10)).f0),.int .i64 ((rd_T34 l1_0 (ji10)).f1),.string ((rd_T34 l1_0 (ji10)).f2),.slice (some ad375) ((rd_T34 l1_0 (ji10)).f3).length c369_3] 34 (0,0)) zt11_6 hg (Kd.R_ne HO_11.out BK370.out (by decide)));have n3_:=zm_ (blk_grown (g:=gb380) (o:=.cells #[.slice (some ad369) y376.length c1_0] 28 (0,0)) (by (with_reducible repeat first|refine zl_ ?_ _|refine zr_ ?_|refine zk_ ?_ _);exact BK380.out) hg (Kd.R_ne HO_11.out BK380.out (by decide)));have n4_:=zm_ (hb);have n5_:=zm_ (ho);clear HO_4;clear BK357;clear BK370;clear BK380;clear HB;clear HO_11;have HO_4:=n0_;have BK357:=n1_;have BK370:=n2_;have BK380:=n3_;have HB:=n4_;have HO385:=n5_;clear n0_ n1_ n2_ n3_ n4_ n5_;clear ho hb hg hat))
                go_roundg k2
                case measure => have:=HJ12.out;have:=HK2.out;omega
                case rel => exact ⟨(y383),(wrap64 (x12_2 + 1)),zV_,H',⟨by have:=HJ12.out;have:=HK2.out;omega⟩,⟨by (with_reducible repeat (first|apply Kd.R_alloc|apply Kd.R_drewN|apply Kd.R_drew));exact HO_4.out⟩,⟨by (with_reducible repeat (first|apply Kd.R_alloc|apply Kd.R_drewN|apply Kd.R_drew));exact HO385.out⟩,⟨by (with_reducible repeat first|refine zl_ ?_ _|refine zr_ ?_|refine zk_ ?_ _);exact BK357.out⟩,⟨by (with_reducible repeat first|refine zl_ ?_ _|refine zr_ ?_|refine zk_ ?_ _);exact BK370.out⟩,⟨by repeat (first|(with_reducible first|exact HB.out|apply za_|apply zn_|apply zd_|refine zs_ ?_ GE357.out|refine zs_ ?_ GE370.out|refine zs_ ?_ GE380.out)|exact HB.out)⟩⟩
               ·rw [if_neg c44] at H
                exact absurd H (by simp)
              ·replace c43:=Bool.eq_false_iff.mpr c43
               subst c43
               have H1 : (some (!t366)) = some r:=by rw [if_neg (show ¬ (false = true) by decide)] at H;exact H
               clear H
               have H:=H1
               clear H1
               obtain rfl:=Option.some.inj H
               have hnb56:=NB370_357.out
               have hnc56:=NB357_370.out
               have hcz57_0 : wr.cell? ⟨gb370,0,none⟩ = some (.int .i64 ((rd_T34 l1_0 (ji10)).f0)):=(zc_ BK370.out 0).trans rfl
               have hcz57_1 : wr.cell? ⟨gb370,1,none⟩ = some (.int .i64 ((rd_T34 l1_0 (ji10)).f1)):=(zc_ BK370.out 1).trans rfl
               have hcz57_2 : wr.cell? ⟨gb370,2,none⟩ = some (.string ((rd_T34 l1_0 (ji10)).f2)):=(zc_ BK370.out 2).trans rfl
               have hcz57_3 : wr.cell? ⟨gb370,3,none⟩ = some (.slice A369_3 ((rd_T34 l1_0 (ji10)).f3).length c369_3):=(zc_ BK370.out 3).trans rfl
               have hfz57_0:=zf_ BK370.out 0
               have hfz57_1:=zf_ BK370.out 1
               have hfz57_2:=zf_ BK370.out 2
               have hfz57_3:=zf_ BK370.out 3
               try go_wp2
               have n0_:=zm_ (Kd.R_drew HO_4.out)
               have n1_:=zm_ (Kd.R_drew HO_11.out)
               have n2_:=zm_ (zr_ BK357.out)
               have n3_:=zm_ (zr_ BK370.out)
               have n4_:=zm_ (zd_ HB.out)
               clear HO_4
               clear HO_11
               clear BK357
               clear BK370
               clear HB
               have HO_4:=n0_
               have HO_11:=n1_
               have BK357:=n2_
               have BK370:=n3_
               have HB:=n4_
               clear n0_ n1_ n2_ n3_ n4_
               have p375 : 0 ≤ (x12_2 : Int):=zo_
               have q375 : x12_2 < (((rd_T34 l1_0 (ji10)).f3).length : Int):=zo_
               obtain ⟨ad375,e375,hx375_0⟩:=Kd.at_int HR369_3.out x12_2 p375 q375
               have hw375_0:=hx375_0
               cases e375
               replace hx375_0:=(HB.out.cell (zb_ w _ hx375_0)).trans hx375_0
               replace p375:=eq_true p375
               replace q375:=eq_true q375
               have q59 : ((ji39) : Int) ≤ ((l1_0.length : Int) : Int):=zo_
               obtain ⟨i059,hi059,_,hsz59,_⟩:=info_parts info34
               have hroom59 : l1_0.length ≤ c1_0:=HC1_0.out
               have hC59 : Kd.C k34 _ (some ad369) l1_0.length l1_0:=HR1_0.out
               have hcut59:=cut_to (P:=Try.prog) 26 34 .i64 Try.underlying26 hi059 (some ad369) l1_0.length c1_0 (ji39) (zo_) q59 hroom59
               have hr59:=Kd.C_take (m:=((ji39) : Int).toNat) hC59 (by omega)
               have hy59 : y376.length = ((ji39) : Int).toNat:=(by rw [Ny376.out,List.length_take];omega)
               rw [← Ny376.out] at hr59
               rw [← hy59] at hcut59
               have HR379:=zm_ hr59
               have HC379:=zm_ (show y376.length ≤ c1_0 from by omega)
               clear hr59 hC59 hroom59 hi059 hsz59
               have KY59:=zm_ hy59
               clear hy59
               replace q59:=eq_true q59
               refine start_ (n:=12) (S:=fun w' => w'.cell? ⟨gb357,0,none⟩ = some (.slice (some ad369) l1_0.length c1_0) ∧ w'.cell? ⟨gb370,0,none⟩ = some (.int .i64 ((rd_T34 l1_0 (ji10)).f0)) ∧ w'.cell? ⟨gb370,1,none⟩ = some (.int .i64 ((rd_T34 l1_0 (ji10)).f1)) ∧ w'.cell? ⟨gb370,2,none⟩ = some (.string ((rd_T34 l1_0 (ji10)).f2)) ∧ w'.cell? ⟨gb370,3,none⟩ = some (.slice (some ad375) ((rd_T34 l1_0 (ji10)).f3).length c369_3) ∧ w'.cell? (ad375.add (x12_2).toNat) = some (.int .i64 (rd ((rd_T34 l1_0 (ji10)).f3) x12_2))) (ds:=[]) #[false,false,false,false,false,false,false,false,false,false,false,false] (by kernel_rfl) rfl rfl ⟨(zc_ BK357.out 0).trans rfl,(zc_ BK370.out 0).trans rfl,(zc_ BK370.out 1).trans rfl,(zc_ BK370.out 2).trans rfl,(zc_ BK370.out 3).trans rfl,((HB.out.cell (zb_ w _ hw375_0)).trans hw375_0)⟩ (fun hHeld => ?_);refine with_tabW laws_FnExprs.tab15 laws_FnExprs.bits15 (fun HT_ HW_ => ?_)
               generalize wr.drew = w58 at HO_4 HO_11 BK357 BK370 HB HR379 hx375_0 hHeld ⊢
               refine pure_ (i:=0) (N:=some 72) (v:=?_) (a':=?_) #[true,false,false,false,false,false,false,false,false,false,false,false] rfl rfl (any_of HT_.out (by kernel_rfl)) (fun _ _ _ h => h) (Or.inl ⟨by rfl,?_⟩) ?_ ?_
               rotate_left
               ·intro w'
                go_simp
                with_reducible rfl
               rotate_left
               ·simp only [Act.put,List.setIfInBounds_toArray,List.set_cons_zero,List.set_cons_succ,i64_w,i32_w,IntKind.wrap_u8]
                rfl
               refine pure_ (i:=2) (N:=some 74) (v:=?_) (a':=?_) #[true,false,true,false,false,false,false,false,false,false,false,false] rfl rfl (any_of HT_.out (by kernel_rfl)) (fun _ _ _ h => h) (Or.inl ⟨by rfl,?_⟩) ?_ ?_
               rotate_left
               ·intro w'
                go_simp
                with_reducible rfl
               rotate_left
               ·simp only [Act.put,List.setIfInBounds_toArray,List.set_cons_zero,List.set_cons_succ,i64_w,i32_w,IntKind.wrap_u8]
                rfl
               refine pure_ (i:=4) (N:=some 76) (v:=?_) (a':=?_) #[true,false,true,false,true,false,false,false,false,false,false,false] rfl rfl (any_of HT_.out (by kernel_rfl)) (fun _ _ _ h => h) (Or.inl ⟨by rfl,?_⟩) ?_ ?_
               rotate_left
               ·intro w'
                go_simp
                with_reducible rfl
               rotate_left
               ·simp only [Act.put,List.setIfInBounds_toArray,List.set_cons_zero,List.set_cons_succ,i64_w,i32_w,IntKind.wrap_u8]
                rfl
               refine take_ (i:=1) (N:=some 73) (v:=?_) (a':=?_) #[true,true,true,false,true,false,false,false,false,false,false,false] rfl rfl (take_ofW HT_.out HW_.out (by kernel_rfl)) (fun _ _ _ h => h) (Or.inl ⟨by rfl,?_⟩) hHeld ?_ ?_
               rotate_left
               ·rintro w' ⟨s0,s1,s2,s3,s4,s5⟩
                go_simp
                with_reducible rfl
               rotate_left
               ·simp only [Act.put,List.setIfInBounds_toArray,List.set_cons_zero,List.set_cons_succ,i64_w,i32_w,IntKind.wrap_u8]
                rfl
               refine take_ (i:=3) (N:=some 75) (v:=?_) (a':=?_) #[true,true,true,true,true,false,false,false,false,false,false,false] rfl rfl (take_ofW HT_.out HW_.out (by kernel_rfl)) (fun _ _ _ h => h) (Or.inl ⟨by rfl,?_⟩) hHeld ?_ ?_
               rotate_left
               ·rintro w' ⟨s0,s1,s2,s3,s4,s5⟩
                go_simp
                with_reducible rfl
               rotate_left
               ·simp only [Act.put,List.setIfInBounds_toArray,List.set_cons_zero,List.set_cons_succ,i64_w,i32_w,IntKind.wrap_u8]
                rfl
               refine pure_ (i:=5) (N:=some 77) (v:=?_) (a':=?_) #[true,true,true,true,true,true,false,false,false,false,false,false] rfl rfl (any_of HT_.out (by kernel_rfl)) (fun _ _ _ h => h) (Or.inl ⟨by rfl,?_⟩) ?_ ?_
               rotate_left
               ·intro w'
                go_simp
                with_reducible rfl
               rotate_left
               ·simp only [Act.put,List.setIfInBounds_toArray,List.set_cons_zero,List.set_cons_succ,i64_w,i32_w,IntKind.wrap_u8]
                rfl
               refine take_ (i:=6) (N:=some 78) (v:=?_) (a':=?_) #[true,true,true,true,true,true,true,false,false,false,false,false] rfl rfl (take_ofW HT_.out HW_.out (by kernel_rfl)) (fun _ _ _ h => h) (Or.inl ⟨by rfl,?_⟩) hHeld ?_ ?_
               rotate_left
               ·rintro w' ⟨s0,s1,s2,s3,s4,s5⟩
                go_simp
                with_reducible rfl
               rotate_left
               ·simp only [Act.put,List.setIfInBounds_toArray,List.set_cons_zero,List.set_cons_succ,i64_w,i32_w,IntKind.wrap_u8]
                rfl
               refine pure_ (i:=7) (N:=some 79) (v:=?_) (a':=?_) #[true,true,true,true,true,true,true,true,false,false,false,false] rfl rfl (any_of HT_.out (by kernel_rfl)) (fun _ _ _ h => h) (Or.inl ⟨by rfl,?_⟩) ?_ ?_
               rotate_left
               ·intro w'
                go_simp
                with_reducible rfl
               rotate_left
               ·simp only [Act.put,List.setIfInBounds_toArray,List.set_cons_zero,List.set_cons_succ,i64_w,i32_w,IntKind.wrap_u8]
                rfl
               refine pure_ (i:=8) (N:=some 80) (v:=?_) (a':=?_) #[true,true,true,true,true,true,true,true,true,false,false,false] rfl rfl (any_of HT_.out (by kernel_rfl)) (fun _ _ _ h => h) (Or.inl ⟨by rfl,?_⟩) ?_ ?_
               rotate_left
               ·intro w'
                go_simp
                with_reducible rfl
               rotate_left
               ·simp only [Act.put,List.setIfInBounds_toArray,List.set_cons_zero,List.set_cons_succ,i64_w,i32_w,IntKind.wrap_u8]
                rfl
               refine pure_ (i:=9) (N:=some 81) (v:=?_) (a':=?_) #[true,true,true,true,true,true,true,true,true,true,false,false] rfl rfl (any_of HT_.out (by kernel_rfl)) (fun _ _ _ h => h) (Or.inl ⟨by rfl,?_⟩) ?_ ?_
               rotate_left
               ·intro w'
                go_simp
                with_reducible rfl
               rotate_left
               ·simp only [Act.put,List.setIfInBounds_toArray,List.set_cons_zero,List.set_cons_succ,i64_w,i32_w,IntKind.wrap_u8]
                rfl
               refine one_ (i:=10) (N:=some 13) #[true,true,true,true,true,true,true,true,true,true,true,false] rfl rfl (one_of HT_.out (by kernel_rfl)) (by decide) (fun K hK => ?_)
               refine box_step ?hg (N:=13) ?hd (cs:=#[.slice none 0 0]) (t:=28) ?hr ?_;(case hd => rfl);(case hg => rfl);(case hr => first|(go_simp;done)|(go_simp;rfl))
               intro gb380 hg w60 hbox hb
               have n0_:=zm_ (Kd.R_below zt11_10 hb)
               have n1_:=zm_ (Kd.R_below zt11_9 hb)
               have n2_:=zm_ (blk_below (g:=gb357) (o:=.cells #[.slice (some ad369) l1_0.length c1_0] 28 (0,0)) zt11_2 hb)
               have n3_:=zm_ (blk_below (g:=gb370) (o:=.cells #[.int .i64 ((rd_T34 l1_0 (ji10)).f0),.int .i64 ((rd_T34 l1_0 (ji10)).f1),.string ((rd_T34 l1_0 (ji10)).f2),.slice (some ad375) ((rd_T34 l1_0 (ji10)).f3).length c369_3] 34 (0,0)) zt11_6 hb)
               have n4_:=zm_ (below_step zt11_1 hb)
               have n5_:=zm_ (hbox)
               have n6_:=zm_ ((by rw [hg];exact (below_size zt11_1) : w.heap.size ≤ gb380))
               have n7_:=zm_ ((by rw [hg];exact (below_size zt11_1) : w.heap.size ≤ gb380))
               have n8_:=zm_ ((zt11_14 : gb357 ≠ gb380))
               have n9_:=zm_ ((zt11_15 : gb380 ≠ gb357))
               have n10_:=zm_ ((zt11_11 : gb370 ≠ gb380))
               have n11_:=zm_ ((zt11_12 : gb380 ≠ gb370))
               clear HO_4
               clear HO_11
               clear BK357
               clear BK370
               clear HB
               have HO_4:=n0_
               have HO_11:=n1_
               have BK357:=n2_
               have BK370:=n3_
               have HB:=n4_
               have BK380:=n5_
               have GW380:=n6_
               have GE380:=n7_
               have NB357_380:=n8_
               have NB380_357:=n9_
               have NB370_380:=n10_
               have NB380_370:=n11_
               clear n0_ n1_ n2_ n3_ n4_ n5_ n6_ n7_ n8_ n9_ n10_ n11_
               clear hb hbox hg
               refine hK.out _ _ ⟨(zc_ BK357.out 0).trans rfl,(zc_ BK370.out 0).trans rfl,(zc_ BK370.out 1).trans rfl,(zc_ BK370.out 2).trans rfl,(zc_ BK370.out 3).trans rfl,((HB.out.cell (zb_ w _ hw375_0)).trans hw375_0)⟩ (fun hHeld => ?_)
               clear hK K
               refine norm_ (a':=?_) ?_ ?_
               rotate_left
               ·show Act.put _ (some 13) _ = _
                simp only [Act.put,List.setIfInBounds_toArray,List.set_cons_zero,List.set_cons_succ,i64_w,i32_w,IntKind.wrap_u8]
                rfl
               refine one_ (i:=11) (N:=none) #[true,true,true,true,true,true,true,true,true,true,true,true] rfl rfl (one_of HT_.out (by kernel_rfl)) (by decide) (fun K hK => ?_)
               have hs61 : w60.cell? ⟨gb380,0,none⟩ = some (.slice none 0 0):=(zc_ BK380.out 0).trans rfl
               have hfs61:=zf_ BK380.out 0
               have hns61_0:=NB357_380.out
               have hns61_1:=NB370_380.out
               have hms61_0:=NB380_357.out
               have hms61_1:=NB380_370.out
               refine skip_ (w1:=?_) (by rfl) rfl ?_ ?_
               rotate_left
               ·go_simp
                rfl
               refine hK.out _ _ ⟨((cell_far (p:=⟨gb380,_,none⟩) NB357_380.out _).trans (hHeld.1)),((cell_far (p:=⟨gb380,_,none⟩) NB370_380.out _).trans (hHeld.2.1)),((cell_far (p:=⟨gb380,_,none⟩) NB370_380.out _).trans (hHeld.2.2.1)),((cell_far (p:=⟨gb380,_,none⟩) NB370_380.out _).trans (hHeld.2.2.2.1)),((cell_far (p:=⟨gb380,_,none⟩) NB370_380.out _).trans (hHeld.2.2.2.2.1)),((cell_far (p:=⟨gb380,_,none⟩) zt11_7 _).trans (hHeld.2.2.2.2.2))⟩ (fun hHeld => ?_)
               clear hK K
               refine done_ (done_of HT_.out (by kernel_rfl)) ?_
               have hnb62:=NB380_357.out
               have hnc62:=NB357_380.out
               have hnb63:=NB380_370.out
               have hnc63:=NB370_380.out
               have hcz64_0 : w60.cell? ⟨gb380,0,none⟩ = some (.slice none 0 0):=(zc_ BK380.out 0).trans rfl
               have hfz64_0:=zf_ BK380.out 0
               try go_wp2_with (first|((with_reducible refine gate_callee (f:=12) rfl ?_);refine goesL_ (some 86) rfl rfl Try.func12 (by kernel_rfl) rfl #[.agg #[.slice (some ad369) y376.length c1_0],.slice Ao20 t358.length co20,.int .i64 (Int.tmod (rd t361 0) 12)] rfl zq_ ?_;(with_reducible refine (impl_EvalExpr.calls k2 _ _ y376 _ _ t358 (Int.tmod (rd t361 0) 12) t381 false _ ?side1 ?side2 ?side3 ?side4 A42.out).mono ?_);(case side1 => exact Kd.C_below HR379.out zt11_4);(case side2 => exact HC379.out);(case side3 => refine (Kd.R_reads' (e:=87) (base:=w.heap.size) (ok:=fun k_ => True) (n:=t358.length) (c:=co20) ?_).2.2;exact zt11_5);(case side4 => exact (Kd.R_reads' HO_4.out).2.1);rintro e w65 ⟨rfl,hb⟩;refine ⟨_,rfl,?_⟩;have n0_:=zm_ (Kd.R_below zt11_5 hb);have n1_:=zm_ (Kd.R_below zt11_13 hb);have n2_:=zm_ (blk_below (g:=gb357) (o:=.cells #[.slice (some ad369) l1_0.length c1_0] 28 (0,0)) (by (with_reducible repeat first|refine zl_ ?_ _|refine zr_ ?_|refine zk_ ?_ _);refine blk_far ?_ NB357_380.out _;(with_reducible repeat first|refine zl_ ?_ _|refine zr_ ?_|refine zk_ ?_ _);exact BK357.out) hb);have n3_:=zm_ (blk_below (g:=gb370) (o:=.cells #[.int .i64 ((rd_T34 l1_0 (ji10)).f0),.int .i64 ((rd_T34 l1_0 (ji10)).f1),.string ((rd_T34 l1_0 (ji10)).f2),.slice (some ad375) ((rd_T34 l1_0 (ji10)).f3).length c369_3] 34 (0,0)) (by (with_reducible repeat first|refine zl_ ?_ _|refine zr_ ?_|refine zk_ ?_ _);refine blk_far ?_ NB370_380.out _;(with_reducible repeat first|refine zl_ ?_ _|refine zr_ ?_|refine zk_ ?_ _);exact BK370.out) hb);have n4_:=zm_ (blk_below (g:=gb380) (o:=.cells #[.slice (some ad369) y376.length c1_0] 28 (0,0)) zt11_16 hb);have n5_:=zm_ (below_step zt11_4 hb);clear HO_4;clear HO_11;clear BK357;clear BK370;clear BK380;clear HB;have HO_4:=n0_;have HO_11:=n1_;have BK357:=n2_;have BK370:=n3_;have BK380:=n4_;have HB:=n5_;clear n0_ n1_ n2_ n3_ n4_ n5_;(try clear hb)))
               go_ret
               refine FIN.out _ _ ?_
               exact ⟨by first|rfl|(simp [errW_none,errW_some] <;> rfl)|(simp only [← hji10,← hji39];first|rfl|(simp [errW_none,errW_some] <;> rfl))|(simp [*,errW_none,errW_some] <;> rfl),by repeat (first|(with_reducible first|exact HB.out|apply za_|apply zn_|apply zd_|refine zs_ ?_ GE357.out|refine zs_ ?_ GE370.out|refine zs_ ?_ GE380.out)|exact HB.out)⟩
             ·rw [if_neg c41] at H
              exact absurd H (by simp)
            ·rw [if_neg c40] at H
             exact absurd H (by simp)
           ·rw [if_neg c38] at H
            exact absurd H (by simp)
          ·rw [if_neg c37] at H
           have c37b0 : decide (x12_2 < (((rd_T34 l1_0 (ji10)).f3).length : Int)) = false:=decide_eq_false c37
           clear c37
           by_cases c66 : ((rd_T34 l1_0 (ji10)).f0) = 1
           ·rw [if_pos c66] at H
            have c66b0 : (((rd_T34 l1_0 (ji10)).f0) == 1) = true:=beq_iff_eq.mpr c66
            have c66b1 : (((rd_T34 l1_0 (ji10)).f0) != 1) = false:=bne_eq_false_iff_eq.mpr c66
            clear c66
            by_cases c67 : t366 = true
            ·subst c67
             have H1 : (some (t365 == ((rd_T34 l1_0 (ji10)).f1))) = some r:=by rw [if_pos rfl] at H;exact H
             clear H
             have H:=H1
             clear H1
             obtain rfl:=Option.some.inj H
             have hnb68:=NB370_357.out
             have hnc68:=NB357_370.out
             have hcz69_0 : wr.cell? ⟨gb370,0,none⟩ = some (.int .i64 ((rd_T34 l1_0 (ji10)).f0)):=(zc_ BK370.out 0).trans rfl
             have hcz69_1 : wr.cell? ⟨gb370,1,none⟩ = some (.int .i64 ((rd_T34 l1_0 (ji10)).f1)):=(zc_ BK370.out 1).trans rfl
             have hcz69_2 : wr.cell? ⟨gb370,2,none⟩ = some (.string ((rd_T34 l1_0 (ji10)).f2)):=(zc_ BK370.out 2).trans rfl
             have hcz69_3 : wr.cell? ⟨gb370,3,none⟩ = some (.slice A369_3 ((rd_T34 l1_0 (ji10)).f3).length c369_3):=(zc_ BK370.out 3).trans rfl
             have hfz69_0:=zf_ BK370.out 0
             have hfz69_1:=zf_ BK370.out 1
             have hfz69_2:=zf_ BK370.out 2
             have hfz69_3:=zf_ BK370.out 3
             go_wp2
             go_ret
             refine FIN.out _ _ ?_
             exact ⟨by first|rfl|(simp [errW_none,errW_some] <;> rfl)|(simp only [← hji10];first|rfl|(simp [errW_none,errW_some] <;> rfl))|(simp [*,errW_none,errW_some] <;> rfl),by repeat (first|(with_reducible first|exact HB.out|apply za_|apply zn_|apply zd_|refine zs_ ?_ GE357.out|refine zs_ ?_ GE370.out)|exact HB.out)⟩
            ·replace c67:=Bool.eq_false_iff.mpr c67
             subst c67
             have H1 : (none) = some r:=by rw [if_neg (show ¬ (false = true) by decide)] at H;exact H
             clear H
             have H:=H1
             clear H1
             exact absurd H (by simp)
           ·rw [if_neg c66] at H
            have c66b0 : (((rd_T34 l1_0 (ji10)).f0) == 1) = false:=beq_eq_false_iff_ne.mpr c66
            have c66b1 : (((rd_T34 l1_0 (ji10)).f0) != 1) = true:=bne_iff_ne.mpr c66
            by_cases c70 : ((rd_T34 l1_0 (ji10)).f0) = 3
            ·rw [if_pos c70] at H
             have c70b0 : (((rd_T34 l1_0 (ji10)).f0) == 3) = true:=beq_iff_eq.mpr c70
             have c70b1 : (((rd_T34 l1_0 (ji10)).f0) != 3) = false:=bne_eq_false_iff_eq.mpr c70
             clear c70
             by_cases c71 : t366 = true
             ·subst c71
              have H1 : (some (t365 == (Int.tmod (rd t361 0) 12))) = some r:=by rw [if_pos rfl] at H;exact H
              clear H
              have H:=H1
              clear H1
              obtain rfl:=Option.some.inj H
              have hnb72:=NB370_357.out
              have hnc72:=NB357_370.out
              have hcz73_0 : wr.cell? ⟨gb370,0,none⟩ = some (.int .i64 ((rd_T34 l1_0 (ji10)).f0)):=(zc_ BK370.out 0).trans rfl
              have hcz73_1 : wr.cell? ⟨gb370,1,none⟩ = some (.int .i64 ((rd_T34 l1_0 (ji10)).f1)):=(zc_ BK370.out 1).trans rfl
              have hcz73_2 : wr.cell? ⟨gb370,2,none⟩ = some (.string ((rd_T34 l1_0 (ji10)).f2)):=(zc_ BK370.out 2).trans rfl
              have hcz73_3 : wr.cell? ⟨gb370,3,none⟩ = some (.slice A369_3 ((rd_T34 l1_0 (ji10)).f3).length c369_3):=(zc_ BK370.out 3).trans rfl
              have hfz73_0:=zf_ BK370.out 0
              have hfz73_1:=zf_ BK370.out 1
              have hfz73_2:=zf_ BK370.out 2
              have hfz73_3:=zf_ BK370.out 3
              go_wp2
              go_ret
              refine FIN.out _ _ ?_
              exact ⟨by first|rfl|(simp [errW_none,errW_some] <;> rfl)|(simp only [← hji10];first|rfl|(simp [errW_none,errW_some] <;> rfl))|(simp [*,errW_none,errW_some] <;> rfl),by repeat (first|(with_reducible first|exact HB.out|apply za_|apply zn_|apply zd_|refine zs_ ?_ GE357.out|refine zs_ ?_ GE370.out)|exact HB.out)⟩
             ·replace c71:=Bool.eq_false_iff.mpr c71
              subst c71
              have H1 : (none) = some r:=by rw [if_neg (show ¬ (false = true) by decide)] at H;exact H
              clear H
              have H:=H1
              clear H1
              exact absurd H (by simp)
            ·rw [if_neg c70] at H
             have c70b0 : (((rd_T34 l1_0 (ji10)).f0) == 3) = false:=beq_eq_false_iff_ne.mpr c70
             have c70b1 : (((rd_T34 l1_0 (ji10)).f0) != 3) = true:=bne_iff_ne.mpr c70
             by_cases c74 : ((rd_T34 l1_0 (ji10)).f0) = 4
             ·rw [if_pos c74] at H
              have c74b0 : (((rd_T34 l1_0 (ji10)).f0) == 4) = true:=beq_iff_eq.mpr c74
              have c74b1 : (((rd_T34 l1_0 (ji10)).f0) != 4) = false:=bne_eq_false_iff_eq.mpr c74
              clear c74
              by_cases c75 : t366 = true
              ·subst c75
               have H1 : (if 0 < (x11_2.length : Int) then (if 1 < (x11_2.length : Int) then (some (t365 == (wrap64 ((rd x11_2 0) + (rd x11_2 1))))) else (none)) else (none)) = some r:=by rw [if_pos rfl] at H;exact H
               clear H
               have H:=H1
               clear H1
               by_cases c76 : 0 < (x11_2.length : Int)
               ·rw [if_pos c76] at H
                have c76b0 : decide (0 < (x11_2.length : Int)) = true:=decide_eq_true c76
                have c76b1 : decide (0 < x11_2.length) = true:=decide_eq_true (by omega)
                clear c76
                by_cases c77 : 1 < (x11_2.length : Int)
                ·rw [if_pos c77] at H
                 have c77b0 : decide (1 < (x11_2.length : Int)) = true:=decide_eq_true c77
                 have c77b1 : decide (1 < x11_2.length) = true:=decide_eq_true (by omega)
                 clear c77
                 obtain rfl:=Option.some.inj H
                 have hnb78:=NB370_357.out
                 have hnc78:=NB357_370.out
                 have hcz79_0 : wr.cell? ⟨gb370,0,none⟩ = some (.int .i64 ((rd_T34 l1_0 (ji10)).f0)):=(zc_ BK370.out 0).trans rfl
                 have hcz79_1 : wr.cell? ⟨gb370,1,none⟩ = some (.int .i64 ((rd_T34 l1_0 (ji10)).f1)):=(zc_ BK370.out 1).trans rfl
                 have hcz79_2 : wr.cell? ⟨gb370,2,none⟩ = some (.string ((rd_T34 l1_0 (ji10)).f2)):=(zc_ BK370.out 2).trans rfl
                 have hcz79_3 : wr.cell? ⟨gb370,3,none⟩ = some (.slice A369_3 ((rd_T34 l1_0 (ji10)).f3).length c369_3):=(zc_ BK370.out 3).trans rfl
                 have hfz79_0:=zf_ BK370.out 0
                 have hfz79_1:=zf_ BK370.out 1
                 have hfz79_2:=zf_ BK370.out 2
                 have hfz79_3:=zf_ BK370.out 3
                 try go_wp2
                 have n0_:=zm_ (Kd.R_drew HO_4.out)
                 have n1_:=zm_ (Kd.R_drew HO_11.out)
                 have n2_:=zm_ (zr_ BK357.out)
                 have n3_:=zm_ (zr_ BK370.out)
                 have n4_:=zm_ (zd_ HB.out)
                 clear HO_4
                 clear HO_11
                 clear BK357
                 clear BK370
                 clear HB
                 have HO_4:=n0_
                 have HO_11:=n1_
                 have BK357:=n2_
                 have BK370:=n3_
                 have HB:=n4_
                 clear n0_ n1_ n2_ n3_ n4_
                 obtain ⟨Ao81,co81,eo81⟩:=Kd.R_slice HO_11.out
                 (first|subst eo81|(injection eo81 with f1_ f2_ f3_;have f4_:=f1_.symm;have f5_:=f3_.symm;clear f1_ f2_ f3_;subst f4_;subst f5_))
                 have p386 : 0 ≤ (0 : Int):=(by omega)
                 have q386 : 0 < (x11_2.length : Int):=zo_
                 obtain ⟨ad386,e386,hx386_0⟩:=Kd.at_int (Kd.R_reads' HO_11.out).2.2 0 p386 q386
                 cases e386
                 have qi386 : (0 < x11_2.length) = True:=eq_true (by omega)
                 (try rw [show ((0 : Int)).toNat = 0 from rfl] at hx386_0)
                 (try rw [Addr.add_zero'] at hx386_0)
                 replace p386:=eq_true p386
                 replace q386:=eq_true q386
                 have p387 : 0 ≤ (1 : Int):=(by omega)
                 have q387 : 1 < (x11_2.length : Int):=zo_
                 obtain ⟨ad387,e387,hx387_0⟩:=Kd.at_int (Kd.R_reads' HO_11.out).2.2 1 p387 q387
                 obtain rfl : ad386 = ad387:=(by injection e387)
                 (try simp only [show (1 : Int).toNat = 1 from rfl,Nat.reduceMul,Nat.reduceEqDiff,Go.Addr.add,↓reduceIte] at hx387_0)
                 have qi387 : (1 < x11_2.length) = True:=eq_true (by omega)
                 (try rw [show ((1 : Int)).toNat = 1 from rfl] at hx387_0)
                 replace p387:=eq_true p387
                 replace q387:=eq_true q387
                 refine start_ (n:=14) (S:=fun w' => w'.cell? ad386 = some (.int .i64 (rd x11_2 0)) ∧ w'.cell? ⟨ad386.block,ad386.off + 1,none⟩ = some (.int .i64 (rd x11_2 1))) (ds:=[]) #[false,false,false,false,false,false,false,false,false,false,false,false,false,false] (by kernel_rfl) rfl rfl ⟨hx386_0,hx387_0⟩ (fun hHeld => ?_);refine with_tabW laws_FnExprs.tab26 laws_FnExprs.bits26 (fun HT_ HW_ => ?_)
                 generalize wr.drew = w80 at HO_4 HO_11 BK357 BK370 HB hx386_0 hx387_0 hHeld ⊢
                 refine pure_ (i:=0) (N:=some 118) (v:=?_) (a':=?_) #[true,false,false,false,false,false,false,false,false,false,false,false,false,false] rfl rfl (any_of HT_.out (by kernel_rfl)) (fun _ _ _ h => h) (Or.inl ⟨by rfl,?_⟩) ?_ ?_
                 rotate_left
                 ·intro w'
                  go_simp
                  with_reducible rfl
                 rotate_left
                 ·simp only [Act.put,List.setIfInBounds_toArray,List.set_cons_zero,List.set_cons_succ,i64_w,i32_w,IntKind.wrap_u8]
                  rfl
                 refine pure_ (i:=1) (N:=some 119) (v:=?_) (a':=?_) #[true,true,false,false,false,false,false,false,false,false,false,false,false,false] rfl rfl (any_of HT_.out (by kernel_rfl)) (fun _ _ _ h => h) (Or.inl ⟨by rfl,?_⟩) ?_ ?_
                 rotate_left
                 ·intro w'
                  go_simp
                  with_reducible rfl
                 rotate_left
                 ·simp only [Act.put,List.setIfInBounds_toArray,List.set_cons_zero,List.set_cons_succ,i64_w,i32_w,IntKind.wrap_u8]
                  rfl
                 refine pure_ (i:=2) (N:=some 120) (v:=?_) (a':=?_) #[true,true,true,false,false,false,false,false,false,false,false,false,false,false] rfl rfl (any_of HT_.out (by kernel_rfl)) (fun _ _ _ h => h) (Or.inl ⟨by rfl,?_⟩) ?_ ?_
                 rotate_left
                 ·intro w'
                  go_simp
                  with_reducible rfl
                 rotate_left
                 ·simp only [Act.put,List.setIfInBounds_toArray,List.set_cons_zero,List.set_cons_succ,i64_w,i32_w,IntKind.wrap_u8]
                  rfl
                 refine pure_ (i:=3) (N:=some 121) (v:=?_) (a':=?_) #[true,true,true,true,false,false,false,false,false,false,false,false,false,false] rfl rfl (any_of HT_.out (by kernel_rfl)) (fun _ _ _ h => h) (Or.inl ⟨by rfl,?_⟩) ?_ ?_
                 rotate_left
                 ·intro w'
                  go_simp
                  with_reducible rfl
                 rotate_left
                 ·simp only [Act.put,List.setIfInBounds_toArray,List.set_cons_zero,List.set_cons_succ,i64_w,i32_w,IntKind.wrap_u8]
                  rfl
                 refine pure_ (i:=4) (N:=some 122) (v:=?_) (a':=?_) #[true,true,true,true,true,false,false,false,false,false,false,false,false,false] rfl rfl (any_of HT_.out (by kernel_rfl)) (fun _ _ _ h => h) (Or.inl ⟨by rfl,?_⟩) ?_ ?_
                 rotate_left
                 ·intro w'
                  go_simp
                  with_reducible rfl
                 rotate_left
                 ·simp only [Act.put,List.setIfInBounds_toArray,List.set_cons_zero,List.set_cons_succ,i64_w,i32_w,IntKind.wrap_u8]
                  rfl
                 refine pure_ (i:=5) (N:=some 123) (v:=?_) (a':=?_) #[true,true,true,true,true,true,false,false,false,false,false,false,false,false] rfl rfl (any_of HT_.out (by kernel_rfl)) (fun _ _ _ h => h) (Or.inl ⟨by rfl,?_⟩) ?_ ?_
                 rotate_left
                 ·intro w'
                  go_simp
                  with_reducible rfl
                 rotate_left
                 ·simp only [Act.put,List.setIfInBounds_toArray,List.set_cons_zero,List.set_cons_succ,i64_w,i32_w,IntKind.wrap_u8]
                  rfl
                 refine pure_ (i:=7) (N:=some 125) (v:=?_) (a':=?_) #[true,true,true,true,true,true,false,true,false,false,false,false,false,false] rfl rfl (any_of HT_.out (by kernel_rfl)) (fun _ _ _ h => h) (Or.inl ⟨by rfl,?_⟩) ?_ ?_
                 rotate_left
                 ·intro w'
                  go_simp
                  with_reducible rfl
                 rotate_left
                 ·simp only [Act.put,List.setIfInBounds_toArray,List.set_cons_zero,List.set_cons_succ,i64_w,i32_w,IntKind.wrap_u8]
                  rfl
                 refine pure_ (i:=8) (N:=some 126) (v:=?_) (a':=?_) #[true,true,true,true,true,true,false,true,true,false,false,false,false,false] rfl rfl (any_of HT_.out (by kernel_rfl)) (fun _ _ _ h => h) (Or.inl ⟨by rfl,?_⟩) ?_ ?_
                 rotate_left
                 ·intro w'
                  go_simp
                  with_reducible rfl
                 rotate_left
                 ·simp only [Act.put,List.setIfInBounds_toArray,List.set_cons_zero,List.set_cons_succ,i64_w,i32_w,IntKind.wrap_u8]
                  rfl
                 refine take_ (i:=6) (N:=some 124) (v:=?_) (a':=?_) #[true,true,true,true,true,true,true,true,true,false,false,false,false,false] rfl rfl (take_ofW HT_.out HW_.out (by kernel_rfl)) (fun _ _ _ h => h) (Or.inl ⟨by rfl,?_⟩) hHeld ?_ ?_
                 rotate_left
                 ·rintro w' ⟨s0,s1⟩
                  go_simp
                  with_reducible rfl
                 rotate_left
                 ·simp only [Act.put,List.setIfInBounds_toArray,List.set_cons_zero,List.set_cons_succ,i64_w,i32_w,IntKind.wrap_u8]
                  rfl
                 refine take_ (i:=9) (N:=some 127) (v:=?_) (a':=?_) #[true,true,true,true,true,true,true,true,true,true,false,false,false,false] rfl rfl (take_ofW HT_.out HW_.out (by kernel_rfl)) (fun _ _ _ h => h) (Or.inl ⟨by rfl,?_⟩) hHeld ?_ ?_
                 rotate_left
                 ·rintro w' ⟨s0,s1⟩
                  go_simp
                  with_reducible rfl
                 rotate_left
                 ·simp only [Act.put,List.setIfInBounds_toArray,List.set_cons_zero,List.set_cons_succ,i64_w,i32_w,IntKind.wrap_u8]
                  rfl
                 refine pure_ (i:=10) (N:=some 128) (v:=?_) (a':=?_) #[true,true,true,true,true,true,true,true,true,true,true,false,false,false] rfl rfl (any_of HT_.out (by kernel_rfl)) (fun _ _ _ h => h) (Or.inl ⟨by rfl,?_⟩) ?_ ?_
                 rotate_left
                 ·intro w'
                  go_simp
                  with_reducible rfl
                 rotate_left
                 ·simp only [Act.put,List.setIfInBounds_toArray,List.set_cons_zero,List.set_cons_succ,i64_w,i32_w,IntKind.wrap_u8]
                  rfl
                 refine pure_ (i:=11) (N:=some 129) (v:=?_) (a':=?_) #[true,true,true,true,true,true,true,true,true,true,true,true,false,false] rfl rfl (any_of HT_.out (by kernel_rfl)) (fun _ _ _ h => h) (Or.inl ⟨by rfl,?_⟩) ?_ ?_
                 rotate_left
                 ·intro w'
                  go_simp
                  with_reducible rfl
                 rotate_left
                 ·simp only [Act.put,List.setIfInBounds_toArray,List.set_cons_zero,List.set_cons_succ,i64_w,i32_w,IntKind.wrap_u8]
                  rfl
                 refine pure_ (i:=12) (N:=some 130) (v:=?_) (a':=?_) #[true,true,true,true,true,true,true,true,true,true,true,true,true,false] rfl rfl (any_of HT_.out (by kernel_rfl)) (fun _ _ _ h => h) (Or.inl ⟨by rfl,?_⟩) ?_ ?_
                 rotate_left
                 ·intro w'
                  go_simp
                  with_reducible rfl
                 rotate_left
                 ·simp only [Act.put,List.setIfInBounds_toArray,List.set_cons_zero,List.set_cons_succ,i64_w,i32_w,IntKind.wrap_u8]
                  rfl
                 refine pure_ (i:=13) (N:=some 2) (v:=?_) (a':=?_) #[true,true,true,true,true,true,true,true,true,true,true,true,true,true] rfl rfl (any_of HT_.out (by kernel_rfl)) (fun _ _ _ h => h) (Or.inl ⟨by rfl,?_⟩) ?_ ?_
                 rotate_left
                 ·intro w'
                  go_simp
                  with_reducible rfl
                 rotate_left
                 ·simp only [Act.put,List.setIfInBounds_toArray,List.set_cons_zero,List.set_cons_succ,i64_w,i32_w,IntKind.wrap_u8]
                  rfl
                 refine done_ (done_of HT_.out (by kernel_rfl)) ?_
                 try go_wp2
                 go_ret
                 refine FIN.out _ _ ?_
                 exact ⟨by first|rfl|(simp [errW_none,errW_some] <;> rfl)|(simp only [← hji10];first|rfl|(simp [errW_none,errW_some] <;> rfl))|(simp [*,errW_none,errW_some] <;> rfl),by repeat (first|(with_reducible first|exact HB.out|apply za_|apply zn_|apply zd_|refine zs_ ?_ GE357.out|refine zs_ ?_ GE370.out)|exact HB.out)⟩
                ·rw [if_neg c77] at H
                 exact absurd H (by simp)
               ·rw [if_neg c76] at H
                exact absurd H (by simp)
              ·replace c75:=Bool.eq_false_iff.mpr c75
               subst c75
               have H1 : (some true) = some r:=by rw [if_neg (show ¬ (false = true) by decide)] at H;exact H
               clear H
               have H:=H1
               clear H1
               obtain rfl:=Option.some.inj H
               have hnb82:=NB370_357.out
               have hnc82:=NB357_370.out
               have hcz83_0 : wr.cell? ⟨gb370,0,none⟩ = some (.int .i64 ((rd_T34 l1_0 (ji10)).f0)):=(zc_ BK370.out 0).trans rfl
               have hcz83_1 : wr.cell? ⟨gb370,1,none⟩ = some (.int .i64 ((rd_T34 l1_0 (ji10)).f1)):=(zc_ BK370.out 1).trans rfl
               have hcz83_2 : wr.cell? ⟨gb370,2,none⟩ = some (.string ((rd_T34 l1_0 (ji10)).f2)):=(zc_ BK370.out 2).trans rfl
               have hcz83_3 : wr.cell? ⟨gb370,3,none⟩ = some (.slice A369_3 ((rd_T34 l1_0 (ji10)).f3).length c369_3):=(zc_ BK370.out 3).trans rfl
               have hfz83_0:=zf_ BK370.out 0
               have hfz83_1:=zf_ BK370.out 1
               have hfz83_2:=zf_ BK370.out 2
               have hfz83_3:=zf_ BK370.out 3
               try go_wp2
               have n0_:=zm_ (Kd.R_drew HO_4.out)
               have n1_:=zm_ (Kd.R_drew HO_11.out)
               have n2_:=zm_ (zr_ BK357.out)
               have n3_:=zm_ (zr_ BK370.out)
               have n4_:=zm_ (zd_ HB.out)
               clear HO_4
               clear HO_11
               clear BK357
               clear BK370
               clear HB
               have HO_4:=n0_
               have HO_11:=n1_
               have BK357:=n2_
               have BK370:=n3_
               have HB:=n4_
               clear n0_ n1_ n2_ n3_ n4_
               refine start_ (n:=14) (S:=fun w' => True) (ds:=[]) #[false,false,false,false,false,false,false,false,false,false,false,false,false,false] (by kernel_rfl) rfl rfl trivial (fun hHeld => ?_);refine with_tabW laws_FnExprs.tab26 laws_FnExprs.bits26 (fun HT_ HW_ => ?_)
               generalize wr.drew = w84 at HO_4 HO_11 BK357 BK370 HB hHeld ⊢
               refine pure_ (i:=0) (N:=some 118) (v:=?_) (a':=?_) #[true,false,false,false,false,false,false,false,false,false,false,false,false,false] rfl rfl (any_of HT_.out (by kernel_rfl)) (fun _ _ _ h => h) (Or.inl ⟨by rfl,?_⟩) ?_ ?_
               rotate_left
               ·intro w'
                go_simp
                with_reducible rfl
               rotate_left
               ·simp only [Act.put,List.setIfInBounds_toArray,List.set_cons_zero,List.set_cons_succ,i64_w,i32_w,IntKind.wrap_u8]
                rfl
               refine pure_ (i:=1) (N:=some 119) (v:=?_) (a':=?_) #[true,true,false,false,false,false,false,false,false,false,false,false,false,false] rfl rfl (any_of HT_.out (by kernel_rfl)) (fun _ _ _ h => h) (Or.inl ⟨by rfl,?_⟩) ?_ ?_
               rotate_left
               ·intro w'
                go_simp
                with_reducible rfl
               rotate_left
               ·simp only [Act.put,List.setIfInBounds_toArray,List.set_cons_zero,List.set_cons_succ,i64_w,i32_w,IntKind.wrap_u8]
                rfl
               refine pure_ (i:=2) (N:=some 120) (v:=?_) (a':=?_) #[true,true,true,false,false,false,false,false,false,false,false,false,false,false] rfl rfl (any_of HT_.out (by kernel_rfl)) (fun _ _ _ h => h) (Or.inl ⟨by rfl,?_⟩) ?_ ?_
               rotate_left
               ·intro w'
                go_simp
                with_reducible rfl
               rotate_left
               ·simp only [Act.put,List.setIfInBounds_toArray,List.set_cons_zero,List.set_cons_succ,i64_w,i32_w,IntKind.wrap_u8]
                rfl
               refine pure_ (i:=3) (N:=some 121) (v:=undef) (a':=?_) #[true,true,true,true,false,false,false,false,false,false,false,false,false,false] rfl rfl (any_of HT_.out (by kernel_rfl)) (fun _ _ _ h => h) (Or.inr ⟨by rfl,rfl⟩) ?_ ?_
               rotate_left
               ·simp only [Act.put,List.setIfInBounds_toArray,List.set_cons_zero,List.set_cons_succ,i64_w,i32_w,IntKind.wrap_u8]
                rfl
               refine pure_ (i:=4) (N:=some 122) (v:=undef) (a':=?_) #[true,true,true,true,true,false,false,false,false,false,false,false,false,false] rfl rfl (any_of HT_.out (by kernel_rfl)) (fun _ _ _ h => h) (Or.inr ⟨by rfl,rfl⟩) ?_ ?_
               rotate_left
               ·simp only [Act.put,List.setIfInBounds_toArray,List.set_cons_zero,List.set_cons_succ,i64_w,i32_w,IntKind.wrap_u8]
                rfl
               refine pure_ (i:=5) (N:=some 123) (v:=undef) (a':=?_) #[true,true,true,true,true,true,false,false,false,false,false,false,false,false] rfl rfl (any_of HT_.out (by kernel_rfl)) (fun _ _ _ h => h) (Or.inr ⟨by rfl,rfl⟩) ?_ ?_
               rotate_left
               ·simp only [Act.put,List.setIfInBounds_toArray,List.set_cons_zero,List.set_cons_succ,i64_w,i32_w,IntKind.wrap_u8]
                rfl
               refine pure_ (i:=6) (N:=some 124) (v:=undef) (a':=?_) #[true,true,true,true,true,true,true,false,false,false,false,false,false,false] rfl rfl (any_of HT_.out (by kernel_rfl)) (fun _ _ _ h => h) (Or.inr ⟨by rfl,rfl⟩) ?_ ?_
               rotate_left
               ·simp only [Act.put,List.setIfInBounds_toArray,List.set_cons_zero,List.set_cons_succ,i64_w,i32_w,IntKind.wrap_u8]
                rfl
               refine pure_ (i:=7) (N:=some 125) (v:=undef) (a':=?_) #[true,true,true,true,true,true,true,true,false,false,false,false,false,false] rfl rfl (any_of HT_.out (by kernel_rfl)) (fun _ _ _ h => h) (Or.inr ⟨by rfl,rfl⟩) ?_ ?_
               rotate_left
               ·simp only [Act.put,List.setIfInBounds_toArray,List.set_cons_zero,List.set_cons_succ,i64_w,i32_w,IntKind.wrap_u8]
                rfl
               refine pure_ (i:=8) (N:=some 126) (v:=undef) (a':=?_) #[true,true,true,true,true,true,true,true,true,false,false,false,false,false] rfl rfl (any_of HT_.out (by kernel_rfl)) (fun _ _ _ h => h) (Or.inr ⟨by rfl,rfl⟩) ?_ ?_
               rotate_left
               ·simp only [Act.put,List.setIfInBounds_toArray,List.set_cons_zero,List.set_cons_succ,i64_w,i32_w,IntKind.wrap_u8]
                rfl
               refine pure_ (i:=9) (N:=some 127) (v:=undef) (a':=?_) #[true,true,true,true,true,true,true,true,true,true,false,false,false,false] rfl rfl (any_of HT_.out (by kernel_rfl)) (fun _ _ _ h => h) (Or.inr ⟨by rfl,rfl⟩) ?_ ?_
               rotate_left
               ·simp only [Act.put,List.setIfInBounds_toArray,List.set_cons_zero,List.set_cons_succ,i64_w,i32_w,IntKind.wrap_u8]
                rfl
               refine pure_ (i:=10) (N:=some 128) (v:=undef) (a':=?_) #[true,true,true,true,true,true,true,true,true,true,true,false,false,false] rfl rfl (any_of HT_.out (by kernel_rfl)) (fun _ _ _ h => h) (Or.inr ⟨by rfl,rfl⟩) ?_ ?_
               rotate_left
               ·simp only [Act.put,List.setIfInBounds_toArray,List.set_cons_zero,List.set_cons_succ,i64_w,i32_w,IntKind.wrap_u8]
                rfl
               refine pure_ (i:=11) (N:=some 129) (v:=undef) (a':=?_) #[true,true,true,true,true,true,true,true,true,true,true,true,false,false] rfl rfl (any_of HT_.out (by kernel_rfl)) (fun _ _ _ h => h) (Or.inr ⟨by rfl,rfl⟩) ?_ ?_
               rotate_left
               ·simp only [Act.put,List.setIfInBounds_toArray,List.set_cons_zero,List.set_cons_succ,i64_w,i32_w,IntKind.wrap_u8]
                rfl
               refine pure_ (i:=12) (N:=some 130) (v:=?_) (a':=?_) #[true,true,true,true,true,true,true,true,true,true,true,true,true,false] rfl rfl (any_of HT_.out (by kernel_rfl)) (fun _ _ _ h => h) (Or.inl ⟨by rfl,?_⟩) ?_ ?_
               rotate_left
               ·intro w'
                go_simp
                with_reducible rfl
               rotate_left
               ·simp only [Act.put,List.setIfInBounds_toArray,List.set_cons_zero,List.set_cons_succ,i64_w,i32_w,IntKind.wrap_u8]
                rfl
               refine pure_ (i:=13) (N:=some 2) (v:=?_) (a':=?_) #[true,true,true,true,true,true,true,true,true,true,true,true,true,true] rfl rfl (any_of HT_.out (by kernel_rfl)) (fun _ _ _ h => h) (Or.inl ⟨by rfl,?_⟩) ?_ ?_
               rotate_left
               ·intro w'
                go_simp
                with_reducible rfl
               rotate_left
               ·simp only [Act.put,List.setIfInBounds_toArray,List.set_cons_zero,List.set_cons_succ,i64_w,i32_w,IntKind.wrap_u8]
                rfl
               refine done_ (done_of HT_.out (by kernel_rfl)) ?_
               try go_wp2
               go_ret
               refine FIN.out _ _ ?_
               exact ⟨by first|rfl|(simp [errW_none,errW_some] <;> rfl)|(simp only [← hji10];first|rfl|(simp [errW_none,errW_some] <;> rfl))|(simp [*,errW_none,errW_some] <;> rfl),by repeat (first|(with_reducible first|exact HB.out|apply za_|apply zn_|apply zd_|refine zs_ ?_ GE357.out|refine zs_ ?_ GE370.out)|exact HB.out)⟩
             ·rw [if_neg c74] at H
              have c74b0 : (((rd_T34 l1_0 (ji10)).f0) == 4) = false:=beq_eq_false_iff_ne.mpr c74
              have c74b1 : (((rd_T34 l1_0 (ji10)).f0) != 4) = true:=bne_iff_ne.mpr c74
              by_cases c85 : ((rd_T34 l1_0 (ji10)).f0) = 5
              ·rw [if_pos c85] at H
               have c85b0 : (((rd_T34 l1_0 (ji10)).f0) == 5) = true:=beq_iff_eq.mpr c85
               have c85b1 : (((rd_T34 l1_0 (ji10)).f0) != 5) = false:=bne_eq_false_iff_eq.mpr c85
               clear c85
               by_cases c86 : t366 = true
               ·subst c86
                have H1 : (if 0 < (x11_2.length : Int) then (if 1 < (x11_2.length : Int) then (some (t365 == (wrap64 ((rd x11_2 0) - (rd x11_2 1))))) else (none)) else (none)) = some r:=by rw [if_pos rfl] at H;exact H
                clear H
                have H:=H1
                clear H1
                by_cases c87 : 0 < (x11_2.length : Int)
                ·rw [if_pos c87] at H
                 have c87b0 : decide (0 < (x11_2.length : Int)) = true:=decide_eq_true c87
                 have c87b1 : decide (0 < x11_2.length) = true:=decide_eq_true (by omega)
                 clear c87
                 by_cases c88 : 1 < (x11_2.length : Int)
                 ·rw [if_pos c88] at H
                  have c88b0 : decide (1 < (x11_2.length : Int)) = true:=decide_eq_true c88
                  have c88b1 : decide (1 < x11_2.length) = true:=decide_eq_true (by omega)
                  clear c88
                  obtain rfl:=Option.some.inj H
                  have hnb89:=NB370_357.out
                  have hnc89:=NB357_370.out
                  have hcz90_0 : wr.cell? ⟨gb370,0,none⟩ = some (.int .i64 ((rd_T34 l1_0 (ji10)).f0)):=(zc_ BK370.out 0).trans rfl
                  have hcz90_1 : wr.cell? ⟨gb370,1,none⟩ = some (.int .i64 ((rd_T34 l1_0 (ji10)).f1)):=(zc_ BK370.out 1).trans rfl
                  have hcz90_2 : wr.cell? ⟨gb370,2,none⟩ = some (.string ((rd_T34 l1_0 (ji10)).f2)):=(zc_ BK370.out 2).trans rfl
                  have hcz90_3 : wr.cell? ⟨gb370,3,none⟩ = some (.slice A369_3 ((rd_T34 l1_0 (ji10)).f3).length c369_3):=(zc_ BK370.out 3).trans rfl
                  have hfz90_0:=zf_ BK370.out 0
                  have hfz90_1:=zf_ BK370.out 1
                  have hfz90_2:=zf_ BK370.out 2
                  have hfz90_3:=zf_ BK370.out 3
                  try go_wp2
                  have n0_:=zm_ (Kd.R_drew HO_4.out)
                  have n1_:=zm_ (Kd.R_drew HO_11.out)
                  have n2_:=zm_ (zr_ BK357.out)
                  have n3_:=zm_ (zr_ BK370.out)
                  have n4_:=zm_ (zd_ HB.out)
                  clear HO_4
                  clear HO_11
                  clear BK357
                  clear BK370
                  clear HB
                  have HO_4:=n0_
                  have HO_11:=n1_
                  have BK357:=n2_
                  have BK370:=n3_
                  have HB:=n4_
                  clear n0_ n1_ n2_ n3_ n4_
                  obtain ⟨Ao92,co92,eo92⟩:=Kd.R_slice HO_11.out
                  (first|subst eo92|(injection eo92 with f1_ f2_ f3_;have f4_:=f1_.symm;have f5_:=f3_.symm;clear f1_ f2_ f3_;subst f4_;subst f5_))
                  have p388 : 0 ≤ (0 : Int):=(by omega)
                  have q388 : 0 < (x11_2.length : Int):=zo_
                  obtain ⟨ad388,e388,hx388_0⟩:=Kd.at_int (Kd.R_reads' HO_11.out).2.2 0 p388 q388
                  cases e388
                  have qi388 : (0 < x11_2.length) = True:=eq_true (by omega)
                  (try rw [show ((0 : Int)).toNat = 0 from rfl] at hx388_0)
                  (try rw [Addr.add_zero'] at hx388_0)
                  replace p388:=eq_true p388
                  replace q388:=eq_true q388
                  have p389 : 0 ≤ (1 : Int):=(by omega)
                  have q389 : 1 < (x11_2.length : Int):=zo_
                  obtain ⟨ad389,e389,hx389_0⟩:=Kd.at_int (Kd.R_reads' HO_11.out).2.2 1 p389 q389
                  obtain rfl : ad388 = ad389:=(by injection e389)
                  (try simp only [show (1 : Int).toNat = 1 from rfl,Nat.reduceMul,Nat.reduceEqDiff,Go.Addr.add,↓reduceIte] at hx389_0)
                  have qi389 : (1 < x11_2.length) = True:=eq_true (by omega)
                  (try rw [show ((1 : Int)).toNat = 1 from rfl] at hx389_0)
                  replace p389:=eq_true p389
                  replace q389:=eq_true q389
                  refine start_ (n:=14) (S:=fun w' => w'.cell? ad388 = some (.int .i64 (rd x11_2 0)) ∧ w'.cell? ⟨ad388.block,ad388.off + 1,none⟩ = some (.int .i64 (rd x11_2 1))) (ds:=[]) #[false,false,false,false,false,false,false,false,false,false,false,false,false,false] (by kernel_rfl) rfl rfl ⟨hx388_0,hx389_0⟩ (fun hHeld => ?_);refine with_tabW laws_FnExprs.tab28 laws_FnExprs.bits28 (fun HT_ HW_ => ?_)
                  generalize wr.drew = w91 at HO_4 HO_11 BK357 BK370 HB hx388_0 hx389_0 hHeld ⊢
                  refine pure_ (i:=0) (N:=some 133) (v:=?_) (a':=?_) #[true,false,false,false,false,false,false,false,false,false,false,false,false,false] rfl rfl (any_of HT_.out (by kernel_rfl)) (fun _ _ _ h => h) (Or.inl ⟨by rfl,?_⟩) ?_ ?_
                  rotate_left
                  ·intro w'
                   go_simp
                   with_reducible rfl
                  rotate_left
                  ·simp only [Act.put,List.setIfInBounds_toArray,List.set_cons_zero,List.set_cons_succ,i64_w,i32_w,IntKind.wrap_u8]
                   rfl
                  refine pure_ (i:=1) (N:=some 134) (v:=?_) (a':=?_) #[true,true,false,false,false,false,false,false,false,false,false,false,false,false] rfl rfl (any_of HT_.out (by kernel_rfl)) (fun _ _ _ h => h) (Or.inl ⟨by rfl,?_⟩) ?_ ?_
                  rotate_left
                  ·intro w'
                   go_simp
                   with_reducible rfl
                  rotate_left
                  ·simp only [Act.put,List.setIfInBounds_toArray,List.set_cons_zero,List.set_cons_succ,i64_w,i32_w,IntKind.wrap_u8]
                   rfl
                  refine pure_ (i:=2) (N:=some 135) (v:=?_) (a':=?_) #[true,true,true,false,false,false,false,false,false,false,false,false,false,false] rfl rfl (any_of HT_.out (by kernel_rfl)) (fun _ _ _ h => h) (Or.inl ⟨by rfl,?_⟩) ?_ ?_
                  rotate_left
                  ·intro w'
                   go_simp
                   with_reducible rfl
                  rotate_left
                  ·simp only [Act.put,List.setIfInBounds_toArray,List.set_cons_zero,List.set_cons_succ,i64_w,i32_w,IntKind.wrap_u8]
                   rfl
                  refine pure_ (i:=3) (N:=some 136) (v:=?_) (a':=?_) #[true,true,true,true,false,false,false,false,false,false,false,false,false,false] rfl rfl (any_of HT_.out (by kernel_rfl)) (fun _ _ _ h => h) (Or.inl ⟨by rfl,?_⟩) ?_ ?_
                  rotate_left
                  ·intro w'
                   go_simp
                   with_reducible rfl
                  rotate_left
                  ·simp only [Act.put,List.setIfInBounds_toArray,List.set_cons_zero,List.set_cons_succ,i64_w,i32_w,IntKind.wrap_u8]
                   rfl
                  refine pure_ (i:=4) (N:=some 137) (v:=?_) (a':=?_) #[true,true,true,true,true,false,false,false,false,false,false,false,false,false] rfl rfl (any_of HT_.out (by kernel_rfl)) (fun _ _ _ h => h) (Or.inl ⟨by rfl,?_⟩) ?_ ?_
                  rotate_left
                  ·intro w'
                   go_simp
                   with_reducible rfl
                  rotate_left
                  ·simp only [Act.put,List.setIfInBounds_toArray,List.set_cons_zero,List.set_cons_succ,i64_w,i32_w,IntKind.wrap_u8]
                   rfl
                  refine pure_ (i:=5) (N:=some 138) (v:=?_) (a':=?_) #[true,true,true,true,true,true,false,false,false,false,false,false,false,false] rfl rfl (any_of HT_.out (by kernel_rfl)) (fun _ _ _ h => h) (Or.inl ⟨by rfl,?_⟩) ?_ ?_
                  rotate_left
                  ·intro w'
                   go_simp
                   with_reducible rfl
                  rotate_left
                  ·simp only [Act.put,List.setIfInBounds_toArray,List.set_cons_zero,List.set_cons_succ,i64_w,i32_w,IntKind.wrap_u8]
                   rfl
                  refine pure_ (i:=7) (N:=some 140) (v:=?_) (a':=?_) #[true,true,true,true,true,true,false,true,false,false,false,false,false,false] rfl rfl (any_of HT_.out (by kernel_rfl)) (fun _ _ _ h => h) (Or.inl ⟨by rfl,?_⟩) ?_ ?_
                  rotate_left
                  ·intro w'
                   go_simp
                   with_reducible rfl
                  rotate_left
                  ·simp only [Act.put,List.setIfInBounds_toArray,List.set_cons_zero,List.set_cons_succ,i64_w,i32_w,IntKind.wrap_u8]
                   rfl
                  refine pure_ (i:=8) (N:=some 141) (v:=?_) (a':=?_) #[true,true,true,true,true,true,false,true,true,false,false,false,false,false] rfl rfl (any_of HT_.out (by kernel_rfl)) (fun _ _ _ h => h) (Or.inl ⟨by rfl,?_⟩) ?_ ?_
                  rotate_left
                  ·intro w'
                   go_simp
                   with_reducible rfl
                  rotate_left
                  ·simp only [Act.put,List.setIfInBounds_toArray,List.set_cons_zero,List.set_cons_succ,i64_w,i32_w,IntKind.wrap_u8]
                   rfl
                  refine take_ (i:=6) (N:=some 139) (v:=?_) (a':=?_) #[true,true,true,true,true,true,true,true,true,false,false,false,false,false] rfl rfl (take_ofW HT_.out HW_.out (by kernel_rfl)) (fun _ _ _ h => h) (Or.inl ⟨by rfl,?_⟩) hHeld ?_ ?_
                  rotate_left
                  ·rintro w' ⟨s0,s1⟩
                   go_simp
                   with_reducible rfl
                  rotate_left
                  ·simp only [Act.put,List.setIfInBounds_toArray,List.set_cons_zero,List.set_cons_succ,i64_w,i32_w,IntKind.wrap_u8]
                   rfl
                  refine take_ (i:=9) (N:=some 142) (v:=?_) (a':=?_) #[true,true,true,true,true,true,true,true,true,true,false,false,false,false] rfl rfl (take_ofW HT_.out HW_.out (by kernel_rfl)) (fun _ _ _ h => h) (Or.inl ⟨by rfl,?_⟩) hHeld ?_ ?_
                  rotate_left
                  ·rintro w' ⟨s0,s1⟩
                   go_simp
                   with_reducible rfl
                  rotate_left
                  ·simp only [Act.put,List.setIfInBounds_toArray,List.set_cons_zero,List.set_cons_succ,i64_w,i32_w,IntKind.wrap_u8]
                   rfl
                  refine pure_ (i:=10) (N:=some 143) (v:=?_) (a':=?_) #[true,true,true,true,true,true,true,true,true,true,true,false,false,false] rfl rfl (any_of HT_.out (by kernel_rfl)) (fun _ _ _ h => h) (Or.inl ⟨by rfl,?_⟩) ?_ ?_
                  rotate_left
                  ·intro w'
                   go_simp
                   with_reducible rfl
                  rotate_left
                  ·simp only [Act.put,List.setIfInBounds_toArray,List.set_cons_zero,List.set_cons_succ,i64_w,i32_w,IntKind.wrap_u8]
                   rfl
                  refine pure_ (i:=11) (N:=some 144) (v:=?_) (a':=?_) #[true,true,true,true,true,true,true,true,true,true,true,true,false,false] rfl rfl (any_of HT_.out (by kernel_rfl)) (fun _ _ _ h => h) (Or.inl ⟨by rfl,?_⟩) ?_ ?_
                  rotate_left
                  ·intro w'
                   go_simp
                   with_reducible rfl
                  rotate_left
                  ·simp only [Act.put,List.setIfInBounds_toArray,List.set_cons_zero,List.set_cons_succ,i64_w,i32_w,IntKind.wrap_u8]
                   rfl
                  refine pure_ (i:=12) (N:=some 145) (v:=?_) (a':=?_) #[true,true,true,true,true,true,true,true,true,true,true,true,true,false] rfl rfl (any_of HT_.out (by kernel_rfl)) (fun _ _ _ h => h) (Or.inl ⟨by rfl,?_⟩) ?_ ?_
                  rotate_left
                  ·intro w'
                   go_simp
                   with_reducible rfl
                  rotate_left
                  ·simp only [Act.put,List.setIfInBounds_toArray,List.set_cons_zero,List.set_cons_succ,i64_w,i32_w,IntKind.wrap_u8]
                   rfl
                  refine pure_ (i:=13) (N:=some 2) (v:=?_) (a':=?_) #[true,true,true,true,true,true,true,true,true,true,true,true,true,true] rfl rfl (any_of HT_.out (by kernel_rfl)) (fun _ _ _ h => h) (Or.inl ⟨by rfl,?_⟩) ?_ ?_
                  rotate_left
                  ·intro w'
                   go_simp
                   with_reducible rfl
                  rotate_left
                  ·simp only [Act.put,List.setIfInBounds_toArray,List.set_cons_zero,List.set_cons_succ,i64_w,i32_w,IntKind.wrap_u8]
                   rfl
                  refine done_ (done_of HT_.out (by kernel_rfl)) ?_
                  try go_wp2
                  go_ret
                  refine FIN.out _ _ ?_
                  exact ⟨by first|rfl|(simp [errW_none,errW_some] <;> rfl)|(simp only [← hji10];first|rfl|(simp [errW_none,errW_some] <;> rfl))|(simp [*,errW_none,errW_some] <;> rfl),by repeat (first|(with_reducible first|exact HB.out|apply za_|apply zn_|apply zd_|refine zs_ ?_ GE357.out|refine zs_ ?_ GE370.out)|exact HB.out)⟩
                 ·rw [if_neg c88] at H
                  exact absurd H (by simp)
                ·rw [if_neg c87] at H
                 exact absurd H (by simp)
               ·replace c86:=Bool.eq_false_iff.mpr c86
                subst c86
                have H1 : (some true) = some r:=by rw [if_neg (show ¬ (false = true) by decide)] at H;exact H
                clear H
                have H:=H1
                clear H1
                obtain rfl:=Option.some.inj H
                have hnb93:=NB370_357.out
                have hnc93:=NB357_370.out
                have hcz94_0 : wr.cell? ⟨gb370,0,none⟩ = some (.int .i64 ((rd_T34 l1_0 (ji10)).f0)):=(zc_ BK370.out 0).trans rfl
                have hcz94_1 : wr.cell? ⟨gb370,1,none⟩ = some (.int .i64 ((rd_T34 l1_0 (ji10)).f1)):=(zc_ BK370.out 1).trans rfl
                have hcz94_2 : wr.cell? ⟨gb370,2,none⟩ = some (.string ((rd_T34 l1_0 (ji10)).f2)):=(zc_ BK370.out 2).trans rfl
                have hcz94_3 : wr.cell? ⟨gb370,3,none⟩ = some (.slice A369_3 ((rd_T34 l1_0 (ji10)).f3).length c369_3):=(zc_ BK370.out 3).trans rfl
                have hfz94_0:=zf_ BK370.out 0
                have hfz94_1:=zf_ BK370.out 1
                have hfz94_2:=zf_ BK370.out 2
                have hfz94_3:=zf_ BK370.out 3
                try go_wp2
                have n0_:=zm_ (Kd.R_drew HO_4.out)
                have n1_:=zm_ (Kd.R_drew HO_11.out)
                have n2_:=zm_ (zr_ BK357.out)
                have n3_:=zm_ (zr_ BK370.out)
                have n4_:=zm_ (zd_ HB.out)
                clear HO_4
                clear HO_11
                clear BK357
                clear BK370
                clear HB
                have HO_4:=n0_
                have HO_11:=n1_
                have BK357:=n2_
                have BK370:=n3_
                have HB:=n4_
                clear n0_ n1_ n2_ n3_ n4_
                refine start_ (n:=14) (S:=fun w' => True) (ds:=[]) #[false,false,false,false,false,false,false,false,false,false,false,false,false,false] (by kernel_rfl) rfl rfl trivial (fun hHeld => ?_);refine with_tabW laws_FnExprs.tab28 laws_FnExprs.bits28 (fun HT_ HW_ => ?_)
                generalize wr.drew = w95 at HO_4 HO_11 BK357 BK370 HB hHeld ⊢
                refine pure_ (i:=0) (N:=some 133) (v:=?_) (a':=?_) #[true,false,false,false,false,false,false,false,false,false,false,false,false,false] rfl rfl (any_of HT_.out (by kernel_rfl)) (fun _ _ _ h => h) (Or.inl ⟨by rfl,?_⟩) ?_ ?_
                rotate_left
                ·intro w'
                 go_simp
                 with_reducible rfl
                rotate_left
                ·simp only [Act.put,List.setIfInBounds_toArray,List.set_cons_zero,List.set_cons_succ,i64_w,i32_w,IntKind.wrap_u8]
                 rfl
                refine pure_ (i:=1) (N:=some 134) (v:=?_) (a':=?_) #[true,true,false,false,false,false,false,false,false,false,false,false,false,false] rfl rfl (any_of HT_.out (by kernel_rfl)) (fun _ _ _ h => h) (Or.inl ⟨by rfl,?_⟩) ?_ ?_
                rotate_left
                ·intro w'
                 go_simp
                 with_reducible rfl
                rotate_left
                ·simp only [Act.put,List.setIfInBounds_toArray,List.set_cons_zero,List.set_cons_succ,i64_w,i32_w,IntKind.wrap_u8]
                 rfl
                refine pure_ (i:=2) (N:=some 135) (v:=?_) (a':=?_) #[true,true,true,false,false,false,false,false,false,false,false,false,false,false] rfl rfl (any_of HT_.out (by kernel_rfl)) (fun _ _ _ h => h) (Or.inl ⟨by rfl,?_⟩) ?_ ?_
                rotate_left
                ·intro w'
                 go_simp
                 with_reducible rfl
                rotate_left
                ·simp only [Act.put,List.setIfInBounds_toArray,List.set_cons_zero,List.set_cons_succ,i64_w,i32_w,IntKind.wrap_u8]
                 rfl
                refine pure_ (i:=3) (N:=some 136) (v:=undef) (a':=?_) #[true,true,true,true,false,false,false,false,false,false,false,false,false,false] rfl rfl (any_of HT_.out (by kernel_rfl)) (fun _ _ _ h => h) (Or.inr ⟨by rfl,rfl⟩) ?_ ?_
                rotate_left
                ·simp only [Act.put,List.setIfInBounds_toArray,List.set_cons_zero,List.set_cons_succ,i64_w,i32_w,IntKind.wrap_u8]
                 rfl
                refine pure_ (i:=4) (N:=some 137) (v:=undef) (a':=?_) #[true,true,true,true,true,false,false,false,false,false,false,false,false,false] rfl rfl (any_of HT_.out (by kernel_rfl)) (fun _ _ _ h => h) (Or.inr ⟨by rfl,rfl⟩) ?_ ?_
                rotate_left
                ·simp only [Act.put,List.setIfInBounds_toArray,List.set_cons_zero,List.set_cons_succ,i64_w,i32_w,IntKind.wrap_u8]
                 rfl
                refine pure_ (i:=5) (N:=some 138) (v:=undef) (a':=?_) #[true,true,true,true,true,true,false,false,false,false,false,false,false,false] rfl rfl (any_of HT_.out (by kernel_rfl)) (fun _ _ _ h => h) (Or.inr ⟨by rfl,rfl⟩) ?_ ?_
                rotate_left
                ·simp only [Act.put,List.setIfInBounds_toArray,List.set_cons_zero,List.set_cons_succ,i64_w,i32_w,IntKind.wrap_u8]
                 rfl
                refine pure_ (i:=6) (N:=some 139) (v:=undef) (a':=?_) #[true,true,true,true,true,true,true,false,false,false,false,false,false,false] rfl rfl (any_of HT_.out (by kernel_rfl)) (fun _ _ _ h => h) (Or.inr ⟨by rfl,rfl⟩) ?_ ?_
                rotate_left
                ·simp only [Act.put,List.setIfInBounds_toArray,List.set_cons_zero,List.set_cons_succ,i64_w,i32_w,IntKind.wrap_u8]
                 rfl
                refine pure_ (i:=7) (N:=some 140) (v:=undef) (a':=?_) #[true,true,true,true,true,true,true,true,false,false,false,false,false,false] rfl rfl (any_of HT_.out (by kernel_rfl)) (fun _ _ _ h => h) (Or.inr ⟨by rfl,rfl⟩) ?_ ?_
                rotate_left
                ·simp only [Act.put,List.setIfInBounds_toArray,List.set_cons_zero,List.set_cons_succ,i64_w,i32_w,IntKind.wrap_u8]
                 rfl
                refine pure_ (i:=8) (N:=some 141) (v:=undef) (a':=?_) #[true,true,true,true,true,true,true,true,true,false,false,false,false,false] rfl rfl (any_of HT_.out (by kernel_rfl)) (fun _ _ _ h => h) (Or.inr ⟨by rfl,rfl⟩) ?_ ?_
                rotate_left
                ·simp only [Act.put,List.setIfInBounds_toArray,List.set_cons_zero,List.set_cons_succ,i64_w,i32_w,IntKind.wrap_u8]
                 rfl
                refine pure_ (i:=9) (N:=some 142) (v:=undef) (a':=?_) #[true,true,true,true,true,true,true,true,true,true,false,false,false,false] rfl rfl (any_of HT_.out (by kernel_rfl)) (fun _ _ _ h => h) (Or.inr ⟨by rfl,rfl⟩) ?_ ?_
                rotate_left
                ·simp only [Act.put,List.setIfInBounds_toArray,List.set_cons_zero,List.set_cons_succ,i64_w,i32_w,IntKind.wrap_u8]
                 rfl
                refine pure_ (i:=10) (N:=some 143) (v:=undef) (a':=?_) #[true,true,true,true,true,true,true,true,true,true,true,false,false,false] rfl rfl (any_of HT_.out (by kernel_rfl)) (fun _ _ _ h => h) (Or.inr ⟨by rfl,rfl⟩) ?_ ?_
                rotate_left
                ·simp only [Act.put,List.setIfInBounds_toArray,List.set_cons_zero,List.set_cons_succ,i64_w,i32_w,IntKind.wrap_u8]
                 rfl
                refine pure_ (i:=11) (N:=some 144) (v:=undef) (a':=?_) #[true,true,true,true,true,true,true,true,true,true,true,true,false,false] rfl rfl (any_of HT_.out (by kernel_rfl)) (fun _ _ _ h => h) (Or.inr ⟨by rfl,rfl⟩) ?_ ?_
                rotate_left
                ·simp only [Act.put,List.setIfInBounds_toArray,List.set_cons_zero,List.set_cons_succ,i64_w,i32_w,IntKind.wrap_u8]
                 rfl
                refine pure_ (i:=12) (N:=some 145) (v:=?_) (a':=?_) #[true,true,true,true,true,true,true,true,true,true,true,true,true,false] rfl rfl (any_of HT_.out (by kernel_rfl)) (fun _ _ _ h => h) (Or.inl ⟨by rfl,?_⟩) ?_ ?_
                rotate_left
                ·intro w'
                 go_simp
                 with_reducible rfl
                rotate_left
                ·simp only [Act.put,List.setIfInBounds_toArray,List.set_cons_zero,List.set_cons_succ,i64_w,i32_w,IntKind.wrap_u8]
                 rfl
                refine pure_ (i:=13) (N:=some 2) (v:=?_) (a':=?_) #[true,true,true,true,true,true,true,true,true,true,true,true,true,true] rfl rfl (any_of HT_.out (by kernel_rfl)) (fun _ _ _ h => h) (Or.inl ⟨by rfl,?_⟩) ?_ ?_
                rotate_left
                ·intro w'
                 go_simp
                 with_reducible rfl
                rotate_left
                ·simp only [Act.put,List.setIfInBounds_toArray,List.set_cons_zero,List.set_cons_succ,i64_w,i32_w,IntKind.wrap_u8]
                 rfl
                refine done_ (done_of HT_.out (by kernel_rfl)) ?_
                try go_wp2
                go_ret
                refine FIN.out _ _ ?_
                exact ⟨by first|rfl|(simp [errW_none,errW_some] <;> rfl)|(simp only [← hji10];first|rfl|(simp [errW_none,errW_some] <;> rfl))|(simp [*,errW_none,errW_some] <;> rfl),by repeat (first|(with_reducible first|exact HB.out|apply za_|apply zn_|apply zd_|refine zs_ ?_ GE357.out|refine zs_ ?_ GE370.out)|exact HB.out)⟩
              ·rw [if_neg c85] at H
               have c85b0 : (((rd_T34 l1_0 (ji10)).f0) == 5) = false:=beq_eq_false_iff_ne.mpr c85
               have c85b1 : (((rd_T34 l1_0 (ji10)).f0) != 5) = true:=bne_iff_ne.mpr c85
               by_cases c96 : ((rd_T34 l1_0 (ji10)).f0) = 6
               ·rw [if_pos c96] at H
                have c96b0 : (((rd_T34 l1_0 (ji10)).f0) == 6) = true:=beq_iff_eq.mpr c96
                have c96b1 : (((rd_T34 l1_0 (ji10)).f0) != 6) = false:=bne_eq_false_iff_eq.mpr c96
                clear c96
                by_cases c97 : t366 = true
                ·subst c97
                 have H1 : (if 0 < (x11_2.length : Int) then (if 1 < (x11_2.length : Int) then (some (t365 == (wrap64 ((rd x11_2 0) * (rd x11_2 1))))) else (none)) else (none)) = some r:=by rw [if_pos rfl] at H;exact H
                 clear H
                 have H:=H1
                 clear H1
                 by_cases c98 : 0 < (x11_2.length : Int)
                 ·rw [if_pos c98] at H
                  have c98b0 : decide (0 < (x11_2.length : Int)) = true:=decide_eq_true c98
                  have c98b1 : decide (0 < x11_2.length) = true:=decide_eq_true (by omega)
                  clear c98
                  by_cases c99 : 1 < (x11_2.length : Int)
                  ·rw [if_pos c99] at H
                   have c99b0 : decide (1 < (x11_2.length : Int)) = true:=decide_eq_true c99
                   have c99b1 : decide (1 < x11_2.length) = true:=decide_eq_true (by omega)
                   clear c99
                   obtain rfl:=Option.some.inj H
                   have hnb100:=NB370_357.out
                   have hnc100:=NB357_370.out
                   have hcz101_0 : wr.cell? ⟨gb370,0,none⟩ = some (.int .i64 ((rd_T34 l1_0 (ji10)).f0)):=(zc_ BK370.out 0).trans rfl
                   have hcz101_1 : wr.cell? ⟨gb370,1,none⟩ = some (.int .i64 ((rd_T34 l1_0 (ji10)).f1)):=(zc_ BK370.out 1).trans rfl
                   have hcz101_2 : wr.cell? ⟨gb370,2,none⟩ = some (.string ((rd_T34 l1_0 (ji10)).f2)):=(zc_ BK370.out 2).trans rfl
                   have hcz101_3 : wr.cell? ⟨gb370,3,none⟩ = some (.slice A369_3 ((rd_T34 l1_0 (ji10)).f3).length c369_3):=(zc_ BK370.out 3).trans rfl
                   have hfz101_0:=zf_ BK370.out 0
                   have hfz101_1:=zf_ BK370.out 1
                   have hfz101_2:=zf_ BK370.out 2
                   have hfz101_3:=zf_ BK370.out 3
                   try go_wp2
                   have n0_:=zm_ (Kd.R_drew HO_4.out)
                   have n1_:=zm_ (Kd.R_drew HO_11.out)
                   have n2_:=zm_ (zr_ BK357.out)
                   have n3_:=zm_ (zr_ BK370.out)
                   have n4_:=zm_ (zd_ HB.out)
                   clear HO_4
                   clear HO_11
                   clear BK357
                   clear BK370
                   clear HB
                   have HO_4:=n0_
                   have HO_11:=n1_
                   have BK357:=n2_
                   have BK370:=n3_
                   have HB:=n4_
                   clear n0_ n1_ n2_ n3_ n4_
                   obtain ⟨Ao103,co103,eo103⟩:=Kd.R_slice HO_11.out
                   (first|subst eo103|(injection eo103 with f1_ f2_ f3_;have f4_:=f1_.symm;have f5_:=f3_.symm;clear f1_ f2_ f3_;subst f4_;subst f5_))
                   have p390 : 0 ≤ (0 : Int):=(by omega)
                   have q390 : 0 < (x11_2.length : Int):=zo_
                   obtain ⟨ad390,e390,hx390_0⟩:=Kd.at_int (Kd.R_reads' HO_11.out).2.2 0 p390 q390
                   cases e390
                   have qi390 : (0 < x11_2.length) = True:=eq_true (by omega)
                   (try rw [show ((0 : Int)).toNat = 0 from rfl] at hx390_0)
                   (try rw [Addr.add_zero'] at hx390_0)
                   replace p390:=eq_true p390
                   replace q390:=eq_true q390
                   have p391 : 0 ≤ (1 : Int):=(by omega)
                   have q391 : 1 < (x11_2.length : Int):=zo_
                   obtain ⟨ad391,e391,hx391_0⟩:=Kd.at_int (Kd.R_reads' HO_11.out).2.2 1 p391 q391
                   obtain rfl : ad390 = ad391:=(by injection e391)
                   (try simp only [show (1 : Int).toNat = 1 from rfl,Nat.reduceMul,Nat.reduceEqDiff,Go.Addr.add,↓reduceIte] at hx391_0)
                   have qi391 : (1 < x11_2.length) = True:=eq_true (by omega)
                   (try rw [show ((1 : Int)).toNat = 1 from rfl] at hx391_0)
                   replace p391:=eq_true p391
                   replace q391:=eq_true q391
                   refine start_ (n:=14) (S:=fun w' => w'.cell? ad390 = some (.int .i64 (rd x11_2 0)) ∧ w'.cell? ⟨ad390.block,ad390.off + 1,none⟩ = some (.int .i64 (rd x11_2 1))) (ds:=[]) #[false,false,false,false,false,false,false,false,false,false,false,false,false,false] (by kernel_rfl) rfl rfl ⟨hx390_0,hx391_0⟩ (fun hHeld => ?_);refine with_tabW laws_FnExprs.tab30 laws_FnExprs.bits30 (fun HT_ HW_ => ?_)
                   generalize wr.drew = w102 at HO_4 HO_11 BK357 BK370 HB hx390_0 hx391_0 hHeld ⊢
                   refine pure_ (i:=0) (N:=some 148) (v:=?_) (a':=?_) #[true,false,false,false,false,false,false,false,false,false,false,false,false,false] rfl rfl (any_of HT_.out (by kernel_rfl)) (fun _ _ _ h => h) (Or.inl ⟨by rfl,?_⟩) ?_ ?_
                   rotate_left
                   ·intro w'
                    go_simp
                    with_reducible rfl
                   rotate_left
                   ·simp only [Act.put,List.setIfInBounds_toArray,List.set_cons_zero,List.set_cons_succ,i64_w,i32_w,IntKind.wrap_u8]
                    rfl
                   refine pure_ (i:=1) (N:=some 149) (v:=?_) (a':=?_) #[true,true,false,false,false,false,false,false,false,false,false,false,false,false] rfl rfl (any_of HT_.out (by kernel_rfl)) (fun _ _ _ h => h) (Or.inl ⟨by rfl,?_⟩) ?_ ?_
                   rotate_left
                   ·intro w'
                    go_simp
                    with_reducible rfl
                   rotate_left
                   ·simp only [Act.put,List.setIfInBounds_toArray,List.set_cons_zero,List.set_cons_succ,i64_w,i32_w,IntKind.wrap_u8]
                    rfl
                   refine pure_ (i:=2) (N:=some 150) (v:=?_) (a':=?_) #[true,true,true,false,false,false,false,false,false,false,false,false,false,false] rfl rfl (any_of HT_.out (by kernel_rfl)) (fun _ _ _ h => h) (Or.inl ⟨by rfl,?_⟩) ?_ ?_
                   rotate_left
                   ·intro w'
                    go_simp
                    with_reducible rfl
                   rotate_left
                   ·simp only [Act.put,List.setIfInBounds_toArray,List.set_cons_zero,List.set_cons_succ,i64_w,i32_w,IntKind.wrap_u8]
                    rfl
                   refine pure_ (i:=3) (N:=some 151) (v:=?_) (a':=?_) #[true,true,true,true,false,false,false,false,false,false,false,false,false,false] rfl rfl (any_of HT_.out (by kernel_rfl)) (fun _ _ _ h => h) (Or.inl ⟨by rfl,?_⟩) ?_ ?_
                   rotate_left
                   ·intro w'
                    go_simp
                    with_reducible rfl
                   rotate_left
                   ·simp only [Act.put,List.setIfInBounds_toArray,List.set_cons_zero,List.set_cons_succ,i64_w,i32_w,IntKind.wrap_u8]
                    rfl
                   refine pure_ (i:=4) (N:=some 152) (v:=?_) (a':=?_) #[true,true,true,true,true,false,false,false,false,false,false,false,false,false] rfl rfl (any_of HT_.out (by kernel_rfl)) (fun _ _ _ h => h) (Or.inl ⟨by rfl,?_⟩) ?_ ?_
                   rotate_left
                   ·intro w'
                    go_simp
                    with_reducible rfl
                   rotate_left
                   ·simp only [Act.put,List.setIfInBounds_toArray,List.set_cons_zero,List.set_cons_succ,i64_w,i32_w,IntKind.wrap_u8]
                    rfl
                   refine pure_ (i:=5) (N:=some 153) (v:=?_) (a':=?_) #[true,true,true,true,true,true,false,false,false,false,false,false,false,false] rfl rfl (any_of HT_.out (by kernel_rfl)) (fun _ _ _ h => h) (Or.inl ⟨by rfl,?_⟩) ?_ ?_
                   rotate_left
                   ·intro w'
                    go_simp
                    with_reducible rfl
                   rotate_left
                   ·simp only [Act.put,List.setIfInBounds_toArray,List.set_cons_zero,List.set_cons_succ,i64_w,i32_w,IntKind.wrap_u8]
                    rfl
                   refine pure_ (i:=7) (N:=some 155) (v:=?_) (a':=?_) #[true,true,true,true,true,true,false,true,false,false,false,false,false,false] rfl rfl (any_of HT_.out (by kernel_rfl)) (fun _ _ _ h => h) (Or.inl ⟨by rfl,?_⟩) ?_ ?_
                   rotate_left
                   ·intro w'
                    go_simp
                    with_reducible rfl
                   rotate_left
                   ·simp only [Act.put,List.setIfInBounds_toArray,List.set_cons_zero,List.set_cons_succ,i64_w,i32_w,IntKind.wrap_u8]
                    rfl
                   refine pure_ (i:=8) (N:=some 156) (v:=?_) (a':=?_) #[true,true,true,true,true,true,false,true,true,false,false,false,false,false] rfl rfl (any_of HT_.out (by kernel_rfl)) (fun _ _ _ h => h) (Or.inl ⟨by rfl,?_⟩) ?_ ?_
                   rotate_left
                   ·intro w'
                    go_simp
                    with_reducible rfl
                   rotate_left
                   ·simp only [Act.put,List.setIfInBounds_toArray,List.set_cons_zero,List.set_cons_succ,i64_w,i32_w,IntKind.wrap_u8]
                    rfl
                   refine take_ (i:=6) (N:=some 154) (v:=?_) (a':=?_) #[true,true,true,true,true,true,true,true,true,false,false,false,false,false] rfl rfl (take_ofW HT_.out HW_.out (by kernel_rfl)) (fun _ _ _ h => h) (Or.inl ⟨by rfl,?_⟩) hHeld ?_ ?_
                   rotate_left
                   ·rintro w' ⟨s0,s1⟩
                    go_simp
                    with_reducible rfl
                   rotate_left
                   ·simp only [Act.put,List.setIfInBounds_toArray,List.set_cons_zero,List.set_cons_succ,i64_w,i32_w,IntKind.wrap_u8]
                    rfl
                   refine take_ (i:=9) (N:=some 157) (v:=?_) (a':=?_) #[true,true,true,true,true,true,true,true,true,true,false,false,false,false] rfl rfl (take_ofW HT_.out HW_.out (by kernel_rfl)) (fun _ _ _ h => h) (Or.inl ⟨by rfl,?_⟩) hHeld ?_ ?_
                   rotate_left
                   ·rintro w' ⟨s0,s1⟩
                    go_simp
                    with_reducible rfl
                   rotate_left
                   ·simp only [Act.put,List.setIfInBounds_toArray,List.set_cons_zero,List.set_cons_succ,i64_w,i32_w,IntKind.wrap_u8]
                    rfl
                   refine pure_ (i:=10) (N:=some 158) (v:=?_) (a':=?_) #[true,true,true,true,true,true,true,true,true,true,true,false,false,false] rfl rfl (any_of HT_.out (by kernel_rfl)) (fun _ _ _ h => h) (Or.inl ⟨by rfl,?_⟩) ?_ ?_
                   rotate_left
                   ·intro w'
                    go_simp
                    with_reducible rfl
                   rotate_left
                   ·simp only [Act.put,List.setIfInBounds_toArray,List.set_cons_zero,List.set_cons_succ,i64_w,i32_w,IntKind.wrap_u8]
                    rfl
                   refine pure_ (i:=11) (N:=some 159) (v:=?_) (a':=?_) #[true,true,true,true,true,true,true,true,true,true,true,true,false,false] rfl rfl (any_of HT_.out (by kernel_rfl)) (fun _ _ _ h => h) (Or.inl ⟨by rfl,?_⟩) ?_ ?_
                   rotate_left
                   ·intro w'
                    go_simp
                    with_reducible rfl
                   rotate_left
                   ·simp only [Act.put,List.setIfInBounds_toArray,List.set_cons_zero,List.set_cons_succ,i64_w,i32_w,IntKind.wrap_u8]
                    rfl
                   refine pure_ (i:=12) (N:=some 160) (v:=?_) (a':=?_) #[true,true,true,true,true,true,true,true,true,true,true,true,true,false] rfl rfl (any_of HT_.out (by kernel_rfl)) (fun _ _ _ h => h) (Or.inl ⟨by rfl,?_⟩) ?_ ?_
                   rotate_left
                   ·intro w'
                    go_simp
                    with_reducible rfl
                   rotate_left
                   ·simp only [Act.put,List.setIfInBounds_toArray,List.set_cons_zero,List.set_cons_succ,i64_w,i32_w,IntKind.wrap_u8]
                    rfl
                   refine pure_ (i:=13) (N:=some 2) (v:=?_) (a':=?_) #[true,true,true,true,true,true,true,true,true,true,true,true,true,true] rfl rfl (any_of HT_.out (by kernel_rfl)) (fun _ _ _ h => h) (Or.inl ⟨by rfl,?_⟩) ?_ ?_
                   rotate_left
                   ·intro w'
                    go_simp
                    with_reducible rfl
                   rotate_left
                   ·simp only [Act.put,List.setIfInBounds_toArray,List.set_cons_zero,List.set_cons_succ,i64_w,i32_w,IntKind.wrap_u8]
                    rfl
                   refine done_ (done_of HT_.out (by kernel_rfl)) ?_
                   try go_wp2
                   go_ret
                   refine FIN.out _ _ ?_
                   exact ⟨by first|rfl|(simp [errW_none,errW_some] <;> rfl)|(simp only [← hji10];first|rfl|(simp [errW_none,errW_some] <;> rfl))|(simp [*,errW_none,errW_some] <;> rfl),by repeat (first|(with_reducible first|exact HB.out|apply za_|apply zn_|apply zd_|refine zs_ ?_ GE357.out|refine zs_ ?_ GE370.out)|exact HB.out)⟩
                  ·rw [if_neg c99] at H
                   exact absurd H (by simp)
                 ·rw [if_neg c98] at H
                  exact absurd H (by simp)
                ·replace c97:=Bool.eq_false_iff.mpr c97
                 subst c97
                 have H1 : (some true) = some r:=by rw [if_neg (show ¬ (false = true) by decide)] at H;exact H
                 clear H
                 have H:=H1
                 clear H1
                 obtain rfl:=Option.some.inj H
                 have hnb104:=NB370_357.out
                 have hnc104:=NB357_370.out
                 have hcz105_0 : wr.cell? ⟨gb370,0,none⟩ = some (.int .i64 ((rd_T34 l1_0 (ji10)).f0)):=(zc_ BK370.out 0).trans rfl
                 have hcz105_1 : wr.cell? ⟨gb370,1,none⟩ = some (.int .i64 ((rd_T34 l1_0 (ji10)).f1)):=(zc_ BK370.out 1).trans rfl
                 have hcz105_2 : wr.cell? ⟨gb370,2,none⟩ = some (.string ((rd_T34 l1_0 (ji10)).f2)):=(zc_ BK370.out 2).trans rfl
                 have hcz105_3 : wr.cell? ⟨gb370,3,none⟩ = some (.slice A369_3 ((rd_T34 l1_0 (ji10)).f3).length c369_3):=(zc_ BK370.out 3).trans rfl
                 have hfz105_0:=zf_ BK370.out 0
                 have hfz105_1:=zf_ BK370.out 1
                 have hfz105_2:=zf_ BK370.out 2
                 have hfz105_3:=zf_ BK370.out 3
                 try go_wp2
                 have n0_:=zm_ (Kd.R_drew HO_4.out)
                 have n1_:=zm_ (Kd.R_drew HO_11.out)
                 have n2_:=zm_ (zr_ BK357.out)
                 have n3_:=zm_ (zr_ BK370.out)
                 have n4_:=zm_ (zd_ HB.out)
                 clear HO_4
                 clear HO_11
                 clear BK357
                 clear BK370
                 clear HB
                 have HO_4:=n0_
                 have HO_11:=n1_
                 have BK357:=n2_
                 have BK370:=n3_
                 have HB:=n4_
                 clear n0_ n1_ n2_ n3_ n4_
                 refine start_ (n:=14) (S:=fun w' => True) (ds:=[]) #[false,false,false,false,false,false,false,false,false,false,false,false,false,false] (by kernel_rfl) rfl rfl trivial (fun hHeld => ?_);refine with_tabW laws_FnExprs.tab30 laws_FnExprs.bits30 (fun HT_ HW_ => ?_)
                 generalize wr.drew = w106 at HO_4 HO_11 BK357 BK370 HB hHeld ⊢
                 refine pure_ (i:=0) (N:=some 148) (v:=?_) (a':=?_) #[true,false,false,false,false,false,false,false,false,false,false,false,false,false] rfl rfl (any_of HT_.out (by kernel_rfl)) (fun _ _ _ h => h) (Or.inl ⟨by rfl,?_⟩) ?_ ?_
                 rotate_left
                 ·intro w'
                  go_simp
                  with_reducible rfl
                 rotate_left
                 ·simp only [Act.put,List.setIfInBounds_toArray,List.set_cons_zero,List.set_cons_succ,i64_w,i32_w,IntKind.wrap_u8]
                  rfl
                 refine pure_ (i:=1) (N:=some 149) (v:=?_) (a':=?_) #[true,true,false,false,false,false,false,false,false,false,false,false,false,false] rfl rfl (any_of HT_.out (by kernel_rfl)) (fun _ _ _ h => h) (Or.inl ⟨by rfl,?_⟩) ?_ ?_
                 rotate_left
                 ·intro w'
                  go_simp
                  with_reducible rfl
                 rotate_left
                 ·simp only [Act.put,List.setIfInBounds_toArray,List.set_cons_zero,List.set_cons_succ,i64_w,i32_w,IntKind.wrap_u8]
                  rfl
                 refine pure_ (i:=2) (N:=some 150) (v:=?_) (a':=?_) #[true,true,true,false,false,false,false,false,false,false,false,false,false,false] rfl rfl (any_of HT_.out (by kernel_rfl)) (fun _ _ _ h => h) (Or.inl ⟨by rfl,?_⟩) ?_ ?_
                 rotate_left
                 ·intro w'
                  go_simp
                  with_reducible rfl
                 rotate_left
                 ·simp only [Act.put,List.setIfInBounds_toArray,List.set_cons_zero,List.set_cons_succ,i64_w,i32_w,IntKind.wrap_u8]
                  rfl
                 refine pure_ (i:=3) (N:=some 151) (v:=undef) (a':=?_) #[true,true,true,true,false,false,false,false,false,false,false,false,false,false] rfl rfl (any_of HT_.out (by kernel_rfl)) (fun _ _ _ h => h) (Or.inr ⟨by rfl,rfl⟩) ?_ ?_
                 rotate_left
                 ·simp only [Act.put,List.setIfInBounds_toArray,List.set_cons_zero,List.set_cons_succ,i64_w,i32_w,IntKind.wrap_u8]
                  rfl
                 refine pure_ (i:=4) (N:=some 152) (v:=undef) (a':=?_) #[true,true,true,true,true,false,false,false,false,false,false,false,false,false] rfl rfl (any_of HT_.out (by kernel_rfl)) (fun _ _ _ h => h) (Or.inr ⟨by rfl,rfl⟩) ?_ ?_
                 rotate_left
                 ·simp only [Act.put,List.setIfInBounds_toArray,List.set_cons_zero,List.set_cons_succ,i64_w,i32_w,IntKind.wrap_u8]
                  rfl
                 refine pure_ (i:=5) (N:=some 153) (v:=undef) (a':=?_) #[true,true,true,true,true,true,false,false,false,false,false,false,false,false] rfl rfl (any_of HT_.out (by kernel_rfl)) (fun _ _ _ h => h) (Or.inr ⟨by rfl,rfl⟩) ?_ ?_
                 rotate_left
                 ·simp only [Act.put,List.setIfInBounds_toArray,List.set_cons_zero,List.set_cons_succ,i64_w,i32_w,IntKind.wrap_u8]
                  rfl
                 refine pure_ (i:=6) (N:=some 154) (v:=undef) (a':=?_) #[true,true,true,true,true,true,true,false,false,false,false,false,false,false] rfl rfl (any_of HT_.out (by kernel_rfl)) (fun _ _ _ h => h) (Or.inr ⟨by rfl,rfl⟩) ?_ ?_
                 rotate_left
                 ·simp only [Act.put,List.setIfInBounds_toArray,List.set_cons_zero,List.set_cons_succ,i64_w,i32_w,IntKind.wrap_u8]
                  rfl
                 refine pure_ (i:=7) (N:=some 155) (v:=undef) (a':=?_) #[true,true,true,true,true,true,true,true,false,false,false,false,false,false] rfl rfl (any_of HT_.out (by kernel_rfl)) (fun _ _ _ h => h) (Or.inr ⟨by rfl,rfl⟩) ?_ ?_
                 rotate_left
                 ·simp only [Act.put,List.setIfInBounds_toArray,List.set_cons_zero,List.set_cons_succ,i64_w,i32_w,IntKind.wrap_u8]
                  rfl
                 refine pure_ (i:=8) (N:=some 156) (v:=undef) (a':=?_) #[true,true,true,true,true,true,true,true,true,false,false,false,false,false] rfl rfl (any_of HT_.out (by kernel_rfl)) (fun _ _ _ h => h) (Or.inr ⟨by rfl,rfl⟩) ?_ ?_
                 rotate_left
                 ·simp only [Act.put,List.setIfInBounds_toArray,List.set_cons_zero,List.set_cons_succ,i64_w,i32_w,IntKind.wrap_u8]
                  rfl
                 refine pure_ (i:=9) (N:=some 157) (v:=undef) (a':=?_) #[true,true,true,true,true,true,true,true,true,true,false,false,false,false] rfl rfl (any_of HT_.out (by kernel_rfl)) (fun _ _ _ h => h) (Or.inr ⟨by rfl,rfl⟩) ?_ ?_
                 rotate_left
                 ·simp only [Act.put,List.setIfInBounds_toArray,List.set_cons_zero,List.set_cons_succ,i64_w,i32_w,IntKind.wrap_u8]
                  rfl
                 refine pure_ (i:=10) (N:=some 158) (v:=undef) (a':=?_) #[true,true,true,true,true,true,true,true,true,true,true,false,false,false] rfl rfl (any_of HT_.out (by kernel_rfl)) (fun _ _ _ h => h) (Or.inr ⟨by rfl,rfl⟩) ?_ ?_
                 rotate_left
                 ·simp only [Act.put,List.setIfInBounds_toArray,List.set_cons_zero,List.set_cons_succ,i64_w,i32_w,IntKind.wrap_u8]
                  rfl
                 refine pure_ (i:=11) (N:=some 159) (v:=undef) (a':=?_) #[true,true,true,true,true,true,true,true,true,true,true,true,false,false] rfl rfl (any_of HT_.out (by kernel_rfl)) (fun _ _ _ h => h) (Or.inr ⟨by rfl,rfl⟩) ?_ ?_
                 rotate_left
                 ·simp only [Act.put,List.setIfInBounds_toArray,List.set_cons_zero,List.set_cons_succ,i64_w,i32_w,IntKind.wrap_u8]
                  rfl
                 refine pure_ (i:=12) (N:=some 160) (v:=?_) (a':=?_) #[true,true,true,true,true,true,true,true,true,true,true,true,true,false] rfl rfl (any_of HT_.out (by kernel_rfl)) (fun _ _ _ h => h) (Or.inl ⟨by rfl,?_⟩) ?_ ?_
                 rotate_left
                 ·intro w'
                  go_simp
                  with_reducible rfl
                 rotate_left
                 ·simp only [Act.put,List.setIfInBounds_toArray,List.set_cons_zero,List.set_cons_succ,i64_w,i32_w,IntKind.wrap_u8]
                  rfl
                 refine pure_ (i:=13) (N:=some 2) (v:=?_) (a':=?_) #[true,true,true,true,true,true,true,true,true,true,true,true,true,true] rfl rfl (any_of HT_.out (by kernel_rfl)) (fun _ _ _ h => h) (Or.inl ⟨by rfl,?_⟩) ?_ ?_
                 rotate_left
                 ·intro w'
                  go_simp
                  with_reducible rfl
                 rotate_left
                 ·simp only [Act.put,List.setIfInBounds_toArray,List.set_cons_zero,List.set_cons_succ,i64_w,i32_w,IntKind.wrap_u8]
                  rfl
                 refine done_ (done_of HT_.out (by kernel_rfl)) ?_
                 try go_wp2
                 go_ret
                 refine FIN.out _ _ ?_
                 exact ⟨by first|rfl|(simp [errW_none,errW_some] <;> rfl)|(simp only [← hji10];first|rfl|(simp [errW_none,errW_some] <;> rfl))|(simp [*,errW_none,errW_some] <;> rfl),by repeat (first|(with_reducible first|exact HB.out|apply za_|apply zn_|apply zd_|refine zs_ ?_ GE357.out|refine zs_ ?_ GE370.out)|exact HB.out)⟩
               ·rw [if_neg c96] at H
                have c96b0 : (((rd_T34 l1_0 (ji10)).f0) == 6) = false:=beq_eq_false_iff_ne.mpr c96
                have c96b1 : (((rd_T34 l1_0 (ji10)).f0) != 6) = true:=bne_iff_ne.mpr c96
                by_cases c107 : ((rd_T34 l1_0 (ji10)).f0) = 7
                ·rw [if_pos c107] at H
                 have c107b0 : (((rd_T34 l1_0 (ji10)).f0) == 7) = true:=beq_iff_eq.mpr c107
                 have c107b1 : (((rd_T34 l1_0 (ji10)).f0) != 7) = false:=bne_eq_false_iff_eq.mpr c107
                 clear c107
                 by_cases c108 : 1 < (x11_2.length : Int)
                 ·rw [if_pos c108] at H
                  have c108b0 : decide (1 < (x11_2.length : Int)) = true:=decide_eq_true c108
                  have c108b1 : decide (1 < x11_2.length) = true:=decide_eq_true (by omega)
                  clear c108
                  by_cases c109 : (t366 == ((rd x11_2 1) != 0)) = true
                  ·rw [if_pos c109] at H
                   have c109b0 : (t366 == ((rd x11_2 1) != 0)) = true:=c109
                   (try (have c109b1 : decide (t366 = ((rd x11_2 1) != 0)) = true:=by simpa using c109))
                   (try (have c109b2 : (t366 == ((rd x11_2 1) != 0)) = true:=by simpa using c109))
                   clear c109
                   by_cases c110 : t366 = true
                   ·subst c110
                    have H1 : (if 0 < (x11_2.length : Int) then (if (rd x11_2 1) = 0 then (none) else (some (t365 == (wrap64 (Int.tdiv (rd x11_2 0) (rd x11_2 1)))))) else (none)) = some r:=by rw [if_pos rfl] at H;exact H
                    clear H
                    have H:=H1
                    clear H1
                    by_cases c111 : 0 < (x11_2.length : Int)
                    ·rw [if_pos c111] at H
                     have c111b0 : decide (0 < (x11_2.length : Int)) = true:=decide_eq_true c111
                     have c111b1 : decide (0 < x11_2.length) = true:=decide_eq_true (by omega)
                     clear c111
                     by_cases c112 : (rd x11_2 1) = 0
                     ·rw [if_pos c112] at H
                      exact absurd H (by simp)
                     ·rw [if_neg c112] at H
                      have c112b0 : ((rd x11_2 1) == 0) = false:=beq_eq_false_iff_ne.mpr c112
                      have c112b1 : ((rd x11_2 1) != 0) = true:=bne_iff_ne.mpr c112
                      obtain rfl:=Option.some.inj H
                      have hnb113:=NB370_357.out
                      have hnc113:=NB357_370.out
                      have hcz114_0 : wr.cell? ⟨gb370,0,none⟩ = some (.int .i64 ((rd_T34 l1_0 (ji10)).f0)):=(zc_ BK370.out 0).trans rfl
                      have hcz114_1 : wr.cell? ⟨gb370,1,none⟩ = some (.int .i64 ((rd_T34 l1_0 (ji10)).f1)):=(zc_ BK370.out 1).trans rfl
                      have hcz114_2 : wr.cell? ⟨gb370,2,none⟩ = some (.string ((rd_T34 l1_0 (ji10)).f2)):=(zc_ BK370.out 2).trans rfl
                      have hcz114_3 : wr.cell? ⟨gb370,3,none⟩ = some (.slice A369_3 ((rd_T34 l1_0 (ji10)).f3).length c369_3):=(zc_ BK370.out 3).trans rfl
                      have hfz114_0:=zf_ BK370.out 0
                      have hfz114_1:=zf_ BK370.out 1
                      have hfz114_2:=zf_ BK370.out 2
                      have hfz114_3:=zf_ BK370.out 3
                      try go_wp2
                      have n0_:=zm_ (Kd.R_drew HO_4.out)
                      have n1_:=zm_ (Kd.R_drew HO_11.out)
                      have n2_:=zm_ (zr_ BK357.out)
                      have n3_:=zm_ (zr_ BK370.out)
                      have n4_:=zm_ (zd_ HB.out)
                      clear HO_4
                      clear HO_11
                      clear BK357
                      clear BK370
                      clear HB
                      have HO_4:=n0_
                      have HO_11:=n1_
                      have BK357:=n2_
                      have BK370:=n3_
                      have HB:=n4_
                      clear n0_ n1_ n2_ n3_ n4_
                      obtain ⟨Ao116,co116,eo116⟩:=Kd.R_slice HO_11.out
                      (first|subst eo116|(injection eo116 with f1_ f2_ f3_;have f4_:=f1_.symm;have f5_:=f3_.symm;clear f1_ f2_ f3_;subst f4_;subst f5_))
                      have p392 : 0 ≤ (1 : Int):=(by omega)
                      have q392 : 1 < (x11_2.length : Int):=zo_
                      obtain ⟨ad392,e392,hx392_0⟩:=Kd.at_int (Kd.R_reads' HO_11.out).2.2 1 p392 q392
                      cases e392
                      (try simp only [show (1 : Int).toNat = 1 from rfl,Nat.reduceMul,Nat.reduceEqDiff,Go.Addr.add,↓reduceIte] at hx392_0)
                      have qi392 : (1 < x11_2.length) = True:=eq_true (by omega)
                      (try rw [show ((1 : Int)).toNat = 1 from rfl] at hx392_0)
                      replace p392:=eq_true p392
                      replace q392:=eq_true q392
                      have p393 : 0 ≤ (0 : Int):=(by omega)
                      have q393 : 0 < (x11_2.length : Int):=zo_
                      obtain ⟨ad393,e393,hx393_0⟩:=Kd.at_int (Kd.R_reads' HO_11.out).2.2 0 p393 q393
                      obtain rfl : ad392 = ad393:=(by injection e393)
                      have qi393 : (0 < x11_2.length) = True:=eq_true (by omega)
                      (try rw [show ((0 : Int)).toNat = 0 from rfl] at hx393_0)
                      (try rw [Addr.add_zero'] at hx393_0)
                      replace p393:=eq_true p393
                      replace q393:=eq_true q393
                      have p394 : 0 ≤ (1 : Int):=(by omega)
                      have q394 : 1 < (x11_2.length : Int):=zo_
                      obtain ⟨ad394,e394,hx394_0⟩:=Kd.at_int (Kd.R_reads' HO_11.out).2.2 1 p394 q394
                      obtain rfl : ad392 = ad394:=(by injection e394)
                      (try simp only [show (1 : Int).toNat = 1 from rfl,Nat.reduceMul,Nat.reduceEqDiff,Go.Addr.add,↓reduceIte] at hx394_0)
                      have qi394 : (1 < x11_2.length) = True:=eq_true (by omega)
                      (try rw [show ((1 : Int)).toNat = 1 from rfl] at hx394_0)
                      replace p394:=eq_true p394
                      replace q394:=eq_true q394
                      refine start_ (n:=22) (S:=fun w' => w'.cell? ⟨ad392.block,ad392.off + 1,none⟩ = some (.int .i64 (rd x11_2 1)) ∧ w'.cell? ad392 = some (.int .i64 (rd x11_2 0)) ∧ w'.cell? ⟨ad392.block,ad392.off + 1,none⟩ = some (.int .i64 (rd x11_2 1))) (ds:=[]) #[false,false,false,false,false,false,false,false,false,false,false,false,false,false,false,false,false,false,false,false,false,false] (by kernel_rfl) rfl rfl ⟨hx392_0,hx393_0,hx394_0⟩ (fun hHeld => ?_);refine with_tabW laws_FnExprs.tab32 laws_FnExprs.bits32 (fun HT_ HW_ => ?_)
                      generalize wr.drew = w115 at HO_4 HO_11 BK357 BK370 HB hx392_0 hx393_0 hx394_0 hHeld ⊢
                      refine pure_ (i:=0) (N:=some 163) (v:=?_) (a':=?_) #[true,false,false,false,false,false,false,false,false,false,false,false,false,false,false,false,false,false,false,false,false,false] rfl rfl (any_of HT_.out (by kernel_rfl)) (fun _ _ _ h => h) (Or.inl ⟨by rfl,?_⟩) ?_ ?_
                      rotate_left
                      ·intro w'
                       go_simp
                       with_reducible rfl
                      rotate_left
                      ·simp only [Act.put,List.setIfInBounds_toArray,List.set_cons_zero,List.set_cons_succ,i64_w,i32_w,IntKind.wrap_u8]
                       rfl
                      refine pure_ (i:=1) (N:=some 164) (v:=?_) (a':=?_) #[true,true,false,false,false,false,false,false,false,false,false,false,false,false,false,false,false,false,false,false,false,false] rfl rfl (any_of HT_.out (by kernel_rfl)) (fun _ _ _ h => h) (Or.inl ⟨by rfl,?_⟩) ?_ ?_
                      rotate_left
                      ·intro w'
                       go_simp
                       with_reducible rfl
                      rotate_left
                      ·simp only [Act.put,List.setIfInBounds_toArray,List.set_cons_zero,List.set_cons_succ,i64_w,i32_w,IntKind.wrap_u8]
                       rfl
                      refine pure_ (i:=2) (N:=some 165) (v:=?_) (a':=?_) #[true,true,true,false,false,false,false,false,false,false,false,false,false,false,false,false,false,false,false,false,false,false] rfl rfl (any_of HT_.out (by kernel_rfl)) (fun _ _ _ h => h) (Or.inl ⟨by rfl,?_⟩) ?_ ?_
                      rotate_left
                      ·intro w'
                       go_simp
                       with_reducible rfl
                      rotate_left
                      ·simp only [Act.put,List.setIfInBounds_toArray,List.set_cons_zero,List.set_cons_succ,i64_w,i32_w,IntKind.wrap_u8]
                       rfl
                      refine take_ (i:=3) (N:=some 166) (v:=?_) (a':=?_) #[true,true,true,true,false,false,false,false,false,false,false,false,false,false,false,false,false,false,false,false,false,false] rfl rfl (take_ofW HT_.out HW_.out (by kernel_rfl)) (fun _ _ _ h => h) (Or.inl ⟨by rfl,?_⟩) hHeld ?_ ?_
                      rotate_left
                      ·rintro w' ⟨s0,s1,s2⟩
                       go_simp
                       with_reducible rfl
                      rotate_left
                      ·simp only [Act.put,List.setIfInBounds_toArray,List.set_cons_zero,List.set_cons_succ,i64_w,i32_w,IntKind.wrap_u8]
                       rfl
                      refine pure_ (i:=4) (N:=some 167) (v:=?_) (a':=?_) #[true,true,true,true,true,false,false,false,false,false,false,false,false,false,false,false,false,false,false,false,false,false] rfl rfl (any_of HT_.out (by kernel_rfl)) (fun _ _ _ h => h) (Or.inl ⟨by rfl,?_⟩) ?_ ?_
                      rotate_left
                      ·intro w'
                       go_simp
                       with_reducible rfl
                      rotate_left
                      ·simp only [Act.put,List.setIfInBounds_toArray,List.set_cons_zero,List.set_cons_succ,i64_w,i32_w,IntKind.wrap_u8]
                       rfl
                      refine pure_ (i:=5) (N:=some 168) (v:=?_) (a':=?_) #[true,true,true,true,true,true,false,false,false,false,false,false,false,false,false,false,false,false,false,false,false,false] rfl rfl (any_of HT_.out (by kernel_rfl)) (fun _ _ _ h => h) (Or.inl ⟨by rfl,?_⟩) ?_ ?_
                      rotate_left
                      ·intro w'
                       go_simp
                       with_reducible rfl
                      rotate_left
                      ·simp only [Act.put,List.setIfInBounds_toArray,List.set_cons_zero,List.set_cons_succ,i64_w,i32_w,IntKind.wrap_u8]
                       rfl
                      refine pure_ (i:=6) (N:=some 169) (v:=?_) (a':=?_) #[true,true,true,true,true,true,true,false,false,false,false,false,false,false,false,false,false,false,false,false,false,false] rfl rfl (any_of HT_.out (by kernel_rfl)) (fun _ _ _ h => h) (Or.inl ⟨by rfl,?_⟩) ?_ ?_
                      rotate_left
                      ·intro w'
                       go_simp
                       with_reducible rfl
                      rotate_left
                      ·simp only [Act.put,List.setIfInBounds_toArray,List.set_cons_zero,List.set_cons_succ,i64_w,i32_w,IntKind.wrap_u8]
                       rfl
                      refine pure_ (i:=7) (N:=some 170) (v:=?_) (a':=?_) #[true,true,true,true,true,true,true,true,false,false,false,false,false,false,false,false,false,false,false,false,false,false] rfl rfl (any_of HT_.out (by kernel_rfl)) (fun _ _ _ h => h) (Or.inl ⟨by rfl,?_⟩) ?_ ?_
                      rotate_left
                      ·intro w'
                       go_simp
                       with_reducible rfl
                      rotate_left
                      ·simp only [Act.put,List.setIfInBounds_toArray,List.set_cons_zero,List.set_cons_succ,i64_w,i32_w,IntKind.wrap_u8]
                       rfl
                      refine pure_ (i:=8) (N:=some 171) (v:=?_) (a':=?_) #[true,true,true,true,true,true,true,true,true,false,false,false,false,false,false,false,false,false,false,false,false,false] rfl rfl (any_of HT_.out (by kernel_rfl)) (fun _ _ _ h => h) (Or.inl ⟨by rfl,?_⟩) ?_ ?_
                      rotate_left
                      ·intro w'
                       go_simp
                       with_reducible rfl
                      rotate_left
                      ·simp only [Act.put,List.setIfInBounds_toArray,List.set_cons_zero,List.set_cons_succ,i64_w,i32_w,IntKind.wrap_u8]
                       rfl
                      refine pure_ (i:=9) (N:=some 172) (v:=?_) (a':=?_) #[true,true,true,true,true,true,true,true,true,true,false,false,false,false,false,false,false,false,false,false,false,false] rfl rfl (any_of HT_.out (by kernel_rfl)) (fun _ _ _ h => h) (Or.inl ⟨by rfl,?_⟩) ?_ ?_
                      rotate_left
                      ·intro w'
                       go_simp
                       with_reducible rfl
                      rotate_left
                      ·simp only [Act.put,List.setIfInBounds_toArray,List.set_cons_zero,List.set_cons_succ,i64_w,i32_w,IntKind.wrap_u8]
                       rfl
                      refine pure_ (i:=10) (N:=some 173) (v:=?_) (a':=?_) #[true,true,true,true,true,true,true,true,true,true,true,false,false,false,false,false,false,false,false,false,false,false] rfl rfl (any_of HT_.out (by kernel_rfl)) (fun _ _ _ h => h) (Or.inl ⟨by rfl,?_⟩) ?_ ?_
                      rotate_left
                      ·intro w'
                       go_simp
                       with_reducible rfl
                      rotate_left
                      ·simp only [Act.put,List.setIfInBounds_toArray,List.set_cons_zero,List.set_cons_succ,i64_w,i32_w,IntKind.wrap_u8]
                       rfl
                      refine pure_ (i:=11) (N:=some 174) (v:=?_) (a':=?_) #[true,true,true,true,true,true,true,true,true,true,true,true,false,false,false,false,false,false,false,false,false,false] rfl rfl (any_of HT_.out (by kernel_rfl)) (fun _ _ _ h => h) (Or.inl ⟨by rfl,?_⟩) ?_ ?_
                      rotate_left
                      ·intro w'
                       go_simp
                       with_reducible rfl
                      rotate_left
                      ·simp only [Act.put,List.setIfInBounds_toArray,List.set_cons_zero,List.set_cons_succ,i64_w,i32_w,IntKind.wrap_u8]
                       rfl
                      refine pure_ (i:=12) (N:=some 175) (v:=?_) (a':=?_) #[true,true,true,true,true,true,true,true,true,true,true,true,true,false,false,false,false,false,false,false,false,false] rfl rfl (any_of HT_.out (by kernel_rfl)) (fun _ _ _ h => h) (Or.inl ⟨by rfl,?_⟩) ?_ ?_
                      rotate_left
                      ·intro w'
                       go_simp
                       with_reducible rfl
                      rotate_left
                      ·simp only [Act.put,List.setIfInBounds_toArray,List.set_cons_zero,List.set_cons_succ,i64_w,i32_w,IntKind.wrap_u8]
                       rfl
                      refine pure_ (i:=14) (N:=some 177) (v:=?_) (a':=?_) #[true,true,true,true,true,true,true,true,true,true,true,true,true,false,true,false,false,false,false,false,false,false] rfl rfl (any_of HT_.out (by kernel_rfl)) (fun _ _ _ h => h) (Or.inl ⟨by rfl,?_⟩) ?_ ?_
                      rotate_left
                      ·intro w'
                       go_simp
                       with_reducible rfl
                      rotate_left
                      ·simp only [Act.put,List.setIfInBounds_toArray,List.set_cons_zero,List.set_cons_succ,i64_w,i32_w,IntKind.wrap_u8]
                       rfl
                      refine pure_ (i:=15) (N:=some 178) (v:=?_) (a':=?_) #[true,true,true,true,true,true,true,true,true,true,true,true,true,false,true,true,false,false,false,false,false,false] rfl rfl (any_of HT_.out (by kernel_rfl)) (fun _ _ _ h => h) (Or.inl ⟨by rfl,?_⟩) ?_ ?_
                      rotate_left
                      ·intro w'
                       go_simp
                       with_reducible rfl
                      rotate_left
                      ·simp only [Act.put,List.setIfInBounds_toArray,List.set_cons_zero,List.set_cons_succ,i64_w,i32_w,IntKind.wrap_u8]
                       rfl
                      refine take_ (i:=13) (N:=some 176) (v:=?_) (a':=?_) #[true,true,true,true,true,true,true,true,true,true,true,true,true,true,true,true,false,false,false,false,false,false] rfl rfl (take_ofW HT_.out HW_.out (by kernel_rfl)) (fun _ _ _ h => h) (Or.inl ⟨by rfl,?_⟩) hHeld ?_ ?_
                      rotate_left
                      ·rintro w' ⟨s0,s1,s2⟩
                       go_simp
                       with_reducible rfl
                      rotate_left
                      ·simp only [Act.put,List.setIfInBounds_toArray,List.set_cons_zero,List.set_cons_succ,i64_w,i32_w,IntKind.wrap_u8]
                       rfl
                      refine take_ (i:=16) (N:=some 179) (v:=?_) (a':=?_) #[true,true,true,true,true,true,true,true,true,true,true,true,true,true,true,true,true,false,false,false,false,false] rfl rfl (take_ofW HT_.out HW_.out (by kernel_rfl)) (fun _ _ _ h => h) (Or.inl ⟨by rfl,?_⟩) hHeld ?_ ?_
                      rotate_left
                      ·rintro w' ⟨s0,s1,s2⟩
                       go_simp
                       with_reducible rfl
                      rotate_left
                      ·simp only [Act.put,List.setIfInBounds_toArray,List.set_cons_zero,List.set_cons_succ,i64_w,i32_w,IntKind.wrap_u8]
                       rfl
                      refine pure_ (i:=17) (N:=some 180) (v:=?_) (a':=?_) #[true,true,true,true,true,true,true,true,true,true,true,true,true,true,true,true,true,true,false,false,false,false] rfl rfl (any_of HT_.out (by kernel_rfl)) (fun _ _ _ h => h) (Or.inl ⟨by rfl,?_⟩) ?_ ?_
                      rotate_left
                      ·intro w'
                       go_simp
                       with_reducible rfl
                      rotate_left
                      ·simp only [Act.put,List.setIfInBounds_toArray,List.set_cons_zero,List.set_cons_succ,i64_w,i32_w,IntKind.wrap_u8]
                       rfl
                      refine pure_ (i:=18) (N:=some 181) (v:=?_) (a':=?_) #[true,true,true,true,true,true,true,true,true,true,true,true,true,true,true,true,true,true,true,false,false,false] rfl rfl (any_of HT_.out (by kernel_rfl)) (fun _ _ _ h => h) (Or.inl ⟨by rfl,?_⟩) ?_ ?_
                      rotate_left
                      ·intro w'
                       go_simp
                       with_reducible rfl
                      rotate_left
                      ·simp only [Act.put,List.setIfInBounds_toArray,List.set_cons_zero,List.set_cons_succ,i64_w,i32_w,IntKind.wrap_u8]
                       rfl
                      refine pure_ (i:=19) (N:=some 182) (v:=?_) (a':=?_) #[true,true,true,true,true,true,true,true,true,true,true,true,true,true,true,true,true,true,true,true,false,false] rfl rfl (any_of HT_.out (by kernel_rfl)) (fun _ _ _ h => h) (Or.inl ⟨by rfl,?_⟩) ?_ ?_
                      rotate_left
                      ·intro w'
                       go_simp
                       with_reducible rfl
                      rotate_left
                      ·simp only [Act.put,List.setIfInBounds_toArray,List.set_cons_zero,List.set_cons_succ,i64_w,i32_w,IntKind.wrap_u8]
                       rfl
                      refine pure_ (i:=20) (N:=some 183) (v:=?_) (a':=?_) #[true,true,true,true,true,true,true,true,true,true,true,true,true,true,true,true,true,true,true,true,true,false] rfl rfl (any_of HT_.out (by kernel_rfl)) (fun _ _ _ h => h) (Or.inl ⟨by rfl,?_⟩) ?_ ?_
                      rotate_left
                      ·intro w'
                       go_simp
                       with_reducible rfl
                      rotate_left
                      ·simp only [Act.put,List.setIfInBounds_toArray,List.set_cons_zero,List.set_cons_succ,i64_w,i32_w,IntKind.wrap_u8]
                       rfl
                      refine pure_ (i:=21) (N:=some 2) (v:=?_) (a':=?_) #[true,true,true,true,true,true,true,true,true,true,true,true,true,true,true,true,true,true,true,true,true,true] rfl rfl (any_of HT_.out (by kernel_rfl)) (fun _ _ _ h => h) (Or.inl ⟨by rfl,?_⟩) ?_ ?_
                      rotate_left
                      ·intro w'
                       go_simp
                       with_reducible rfl
                      rotate_left
                      ·simp only [Act.put,List.setIfInBounds_toArray,List.set_cons_zero,List.set_cons_succ,i64_w,i32_w,IntKind.wrap_u8]
                       rfl
                      refine done_ (done_of HT_.out (by kernel_rfl)) ?_
                      try go_wp2
                      go_ret
                      refine FIN.out _ _ ?_
                      exact ⟨by first|rfl|(simp [errW_none,errW_some] <;> rfl)|(simp only [← hji10];first|rfl|(simp [errW_none,errW_some] <;> rfl))|(simp [*,errW_none,errW_some] <;> rfl),by repeat (first|(with_reducible first|exact HB.out|apply za_|apply zn_|apply zd_|refine zs_ ?_ GE357.out|refine zs_ ?_ GE370.out)|exact HB.out)⟩
                    ·rw [if_neg c111] at H
                     exact absurd H (by simp)
                   ·replace c110:=Bool.eq_false_iff.mpr c110
                    subst c110
                    have H1 : (some true) = some r:=by rw [if_neg (show ¬ (false = true) by decide)] at H;exact H
                    clear H
                    have H:=H1
                    clear H1
                    obtain rfl:=Option.some.inj H
                    have hnb117:=NB370_357.out
                    have hnc117:=NB357_370.out
                    have hcz118_0 : wr.cell? ⟨gb370,0,none⟩ = some (.int .i64 ((rd_T34 l1_0 (ji10)).f0)):=(zc_ BK370.out 0).trans rfl
                    have hcz118_1 : wr.cell? ⟨gb370,1,none⟩ = some (.int .i64 ((rd_T34 l1_0 (ji10)).f1)):=(zc_ BK370.out 1).trans rfl
                    have hcz118_2 : wr.cell? ⟨gb370,2,none⟩ = some (.string ((rd_T34 l1_0 (ji10)).f2)):=(zc_ BK370.out 2).trans rfl
                    have hcz118_3 : wr.cell? ⟨gb370,3,none⟩ = some (.slice A369_3 ((rd_T34 l1_0 (ji10)).f3).length c369_3):=(zc_ BK370.out 3).trans rfl
                    have hfz118_0:=zf_ BK370.out 0
                    have hfz118_1:=zf_ BK370.out 1
                    have hfz118_2:=zf_ BK370.out 2
                    have hfz118_3:=zf_ BK370.out 3
                    try go_wp2
                    have n0_:=zm_ (Kd.R_drew HO_4.out)
                    have n1_:=zm_ (Kd.R_drew HO_11.out)
                    have n2_:=zm_ (zr_ BK357.out)
                    have n3_:=zm_ (zr_ BK370.out)
                    have n4_:=zm_ (zd_ HB.out)
                    clear HO_4
                    clear HO_11
                    clear BK357
                    clear BK370
                    clear HB
                    have HO_4:=n0_
                    have HO_11:=n1_
                    have BK357:=n2_
                    have BK370:=n3_
                    have HB:=n4_
                    clear n0_ n1_ n2_ n3_ n4_
                    obtain ⟨Ao120,co120,eo120⟩:=Kd.R_slice HO_11.out
                    (first|subst eo120|(injection eo120 with f1_ f2_ f3_;have f4_:=f1_.symm;have f5_:=f3_.symm;clear f1_ f2_ f3_;subst f4_;subst f5_))
                    have p392 : 0 ≤ (1 : Int):=(by omega)
                    have q392 : 1 < (x11_2.length : Int):=zo_
                    obtain ⟨ad392,e392,hx392_0⟩:=Kd.at_int (Kd.R_reads' HO_11.out).2.2 1 p392 q392
                    cases e392
                    (try simp only [show (1 : Int).toNat = 1 from rfl,Nat.reduceMul,Nat.reduceEqDiff,Go.Addr.add,↓reduceIte] at hx392_0)
                    have qi392 : (1 < x11_2.length) = True:=eq_true (by omega)
                    (try rw [show ((1 : Int)).toNat = 1 from rfl] at hx392_0)
                    replace p392:=eq_true p392
                    replace q392:=eq_true q392
                    refine start_ (n:=22) (S:=fun w' => w'.cell? ⟨ad392.block,ad392.off + 1,none⟩ = some (.int .i64 (rd x11_2 1))) (ds:=[]) #[false,false,false,false,false,false,false,false,false,false,false,false,false,false,false,false,false,false,false,false,false,false] (by kernel_rfl) rfl rfl (hx392_0) (fun hHeld => ?_);refine with_tabW laws_FnExprs.tab32 laws_FnExprs.bits32 (fun HT_ HW_ => ?_)
                    generalize wr.drew = w119 at HO_4 HO_11 BK357 BK370 HB hx392_0 hHeld ⊢
                    refine pure_ (i:=0) (N:=some 163) (v:=?_) (a':=?_) #[true,false,false,false,false,false,false,false,false,false,false,false,false,false,false,false,false,false,false,false,false,false] rfl rfl (any_of HT_.out (by kernel_rfl)) (fun _ _ _ h => h) (Or.inl ⟨by rfl,?_⟩) ?_ ?_
                    rotate_left
                    ·intro w'
                     go_simp
                     with_reducible rfl
                    rotate_left
                    ·simp only [Act.put,List.setIfInBounds_toArray,List.set_cons_zero,List.set_cons_succ,i64_w,i32_w,IntKind.wrap_u8]
                     rfl
                    refine pure_ (i:=1) (N:=some 164) (v:=?_) (a':=?_) #[true,true,false,false,false,false,false,false,false,false,false,false,false,false,false,false,false,false,false,false,false,false] rfl rfl (any_of HT_.out (by kernel_rfl)) (fun _ _ _ h => h) (Or.inl ⟨by rfl,?_⟩) ?_ ?_
                    rotate_left
                    ·intro w'
                     go_simp
                     with_reducible rfl
                    rotate_left
                    ·simp only [Act.put,List.setIfInBounds_toArray,List.set_cons_zero,List.set_cons_succ,i64_w,i32_w,IntKind.wrap_u8]
                     rfl
                    refine pure_ (i:=2) (N:=some 165) (v:=?_) (a':=?_) #[true,true,true,false,false,false,false,false,false,false,false,false,false,false,false,false,false,false,false,false,false,false] rfl rfl (any_of HT_.out (by kernel_rfl)) (fun _ _ _ h => h) (Or.inl ⟨by rfl,?_⟩) ?_ ?_
                    rotate_left
                    ·intro w'
                     go_simp
                     with_reducible rfl
                    rotate_left
                    ·simp only [Act.put,List.setIfInBounds_toArray,List.set_cons_zero,List.set_cons_succ,i64_w,i32_w,IntKind.wrap_u8]
                     rfl
                    refine take_ (i:=3) (N:=some 166) (v:=?_) (a':=?_) #[true,true,true,true,false,false,false,false,false,false,false,false,false,false,false,false,false,false,false,false,false,false] rfl rfl (take_ofW HT_.out HW_.out (by kernel_rfl)) (fun _ _ _ h => h) (Or.inl ⟨by rfl,?_⟩) hHeld ?_ ?_
                    rotate_left
                    ·intro w' s0
                     go_simp
                     with_reducible rfl
                    rotate_left
                    ·simp only [Act.put,List.setIfInBounds_toArray,List.set_cons_zero,List.set_cons_succ,i64_w,i32_w,IntKind.wrap_u8]
                     rfl
                    refine pure_ (i:=4) (N:=some 167) (v:=?_) (a':=?_) #[true,true,true,true,true,false,false,false,false,false,false,false,false,false,false,false,false,false,false,false,false,false] rfl rfl (any_of HT_.out (by kernel_rfl)) (fun _ _ _ h => h) (Or.inl ⟨by rfl,?_⟩) ?_ ?_
                    rotate_left
                    ·intro w'
                     go_simp
                     with_reducible rfl
                    rotate_left
                    ·simp only [Act.put,List.setIfInBounds_toArray,List.set_cons_zero,List.set_cons_succ,i64_w,i32_w,IntKind.wrap_u8]
                     rfl
                    refine pure_ (i:=5) (N:=some 168) (v:=?_) (a':=?_) #[true,true,true,true,true,true,false,false,false,false,false,false,false,false,false,false,false,false,false,false,false,false] rfl rfl (any_of HT_.out (by kernel_rfl)) (fun _ _ _ h => h) (Or.inl ⟨by rfl,?_⟩) ?_ ?_
                    rotate_left
                    ·intro w'
                     go_simp
                     with_reducible rfl
                    rotate_left
                    ·simp only [Act.put,List.setIfInBounds_toArray,List.set_cons_zero,List.set_cons_succ,i64_w,i32_w,IntKind.wrap_u8]
                     rfl
                    refine pure_ (i:=6) (N:=some 169) (v:=?_) (a':=?_) #[true,true,true,true,true,true,true,false,false,false,false,false,false,false,false,false,false,false,false,false,false,false] rfl rfl (any_of HT_.out (by kernel_rfl)) (fun _ _ _ h => h) (Or.inl ⟨by rfl,?_⟩) ?_ ?_
                    rotate_left
                    ·intro w'
                     go_simp
                     with_reducible rfl
                    rotate_left
                    ·simp only [Act.put,List.setIfInBounds_toArray,List.set_cons_zero,List.set_cons_succ,i64_w,i32_w,IntKind.wrap_u8]
                     rfl
                    refine pure_ (i:=7) (N:=some 170) (v:=?_) (a':=?_) #[true,true,true,true,true,true,true,true,false,false,false,false,false,false,false,false,false,false,false,false,false,false] rfl rfl (any_of HT_.out (by kernel_rfl)) (fun _ _ _ h => h) (Or.inl ⟨by rfl,?_⟩) ?_ ?_
                    rotate_left
                    ·intro w'
                     go_simp
                     with_reducible rfl
                    rotate_left
                    ·simp only [Act.put,List.setIfInBounds_toArray,List.set_cons_zero,List.set_cons_succ,i64_w,i32_w,IntKind.wrap_u8]
                     rfl
                    refine pure_ (i:=8) (N:=some 171) (v:=?_) (a':=?_) #[true,true,true,true,true,true,true,true,true,false,false,false,false,false,false,false,false,false,false,false,false,false] rfl rfl (any_of HT_.out (by kernel_rfl)) (fun _ _ _ h => h) (Or.inl ⟨by rfl,?_⟩) ?_ ?_
                    rotate_left
                    ·intro w'
                     go_simp
                     with_reducible rfl
                    rotate_left
                    ·simp only [Act.put,List.setIfInBounds_toArray,List.set_cons_zero,List.set_cons_succ,i64_w,i32_w,IntKind.wrap_u8]
                     rfl
                    refine pure_ (i:=9) (N:=some 172) (v:=?_) (a':=?_) #[true,true,true,true,true,true,true,true,true,true,false,false,false,false,false,false,false,false,false,false,false,false] rfl rfl (any_of HT_.out (by kernel_rfl)) (fun _ _ _ h => h) (Or.inl ⟨by rfl,?_⟩) ?_ ?_
                    rotate_left
                    ·intro w'
                     go_simp
                     with_reducible rfl
                    rotate_left
                    ·simp only [Act.put,List.setIfInBounds_toArray,List.set_cons_zero,List.set_cons_succ,i64_w,i32_w,IntKind.wrap_u8]
                     rfl
                    refine pure_ (i:=10) (N:=some 173) (v:=undef) (a':=?_) #[true,true,true,true,true,true,true,true,true,true,true,false,false,false,false,false,false,false,false,false,false,false] rfl rfl (any_of HT_.out (by kernel_rfl)) (fun _ _ _ h => h) (Or.inr ⟨by rfl,rfl⟩) ?_ ?_
                    rotate_left
                    ·simp only [Act.put,List.setIfInBounds_toArray,List.set_cons_zero,List.set_cons_succ,i64_w,i32_w,IntKind.wrap_u8]
                     rfl
                    refine pure_ (i:=11) (N:=some 174) (v:=undef) (a':=?_) #[true,true,true,true,true,true,true,true,true,true,true,true,false,false,false,false,false,false,false,false,false,false] rfl rfl (any_of HT_.out (by kernel_rfl)) (fun _ _ _ h => h) (Or.inr ⟨by rfl,rfl⟩) ?_ ?_
                    rotate_left
                    ·simp only [Act.put,List.setIfInBounds_toArray,List.set_cons_zero,List.set_cons_succ,i64_w,i32_w,IntKind.wrap_u8]
                     rfl
                    refine pure_ (i:=12) (N:=some 175) (v:=undef) (a':=?_) #[true,true,true,true,true,true,true,true,true,true,true,true,true,false,false,false,false,false,false,false,false,false] rfl rfl (any_of HT_.out (by kernel_rfl)) (fun _ _ _ h => h) (Or.inr ⟨by rfl,rfl⟩) ?_ ?_
                    rotate_left
                    ·simp only [Act.put,List.setIfInBounds_toArray,List.set_cons_zero,List.set_cons_succ,i64_w,i32_w,IntKind.wrap_u8]
                     rfl
                    refine pure_ (i:=13) (N:=some 176) (v:=undef) (a':=?_) #[true,true,true,true,true,true,true,true,true,true,true,true,true,true,false,false,false,false,false,false,false,false] rfl rfl (any_of HT_.out (by kernel_rfl)) (fun _ _ _ h => h) (Or.inr ⟨by rfl,rfl⟩) ?_ ?_
                    rotate_left
                    ·simp only [Act.put,List.setIfInBounds_toArray,List.set_cons_zero,List.set_cons_succ,i64_w,i32_w,IntKind.wrap_u8]
                     rfl
                    refine pure_ (i:=14) (N:=some 177) (v:=undef) (a':=?_) #[true,true,true,true,true,true,true,true,true,true,true,true,true,true,true,false,false,false,false,false,false,false] rfl rfl (any_of HT_.out (by kernel_rfl)) (fun _ _ _ h => h) (Or.inr ⟨by rfl,rfl⟩) ?_ ?_
                    rotate_left
                    ·simp only [Act.put,List.setIfInBounds_toArray,List.set_cons_zero,List.set_cons_succ,i64_w,i32_w,IntKind.wrap_u8]
                     rfl
                    refine pure_ (i:=15) (N:=some 178) (v:=undef) (a':=?_) #[true,true,true,true,true,true,true,true,true,true,true,true,true,true,true,true,false,false,false,false,false,false] rfl rfl (any_of HT_.out (by kernel_rfl)) (fun _ _ _ h => h) (Or.inr ⟨by rfl,rfl⟩) ?_ ?_
                    rotate_left
                    ·simp only [Act.put,List.setIfInBounds_toArray,List.set_cons_zero,List.set_cons_succ,i64_w,i32_w,IntKind.wrap_u8]
                     rfl
                    refine pure_ (i:=16) (N:=some 179) (v:=undef) (a':=?_) #[true,true,true,true,true,true,true,true,true,true,true,true,true,true,true,true,true,false,false,false,false,false] rfl rfl (any_of HT_.out (by kernel_rfl)) (fun _ _ _ h => h) (Or.inr ⟨by rfl,rfl⟩) ?_ ?_
                    rotate_left
                    ·simp only [Act.put,List.setIfInBounds_toArray,List.set_cons_zero,List.set_cons_succ,i64_w,i32_w,IntKind.wrap_u8]
                     rfl
                    refine pure_ (i:=17) (N:=some 180) (v:=undef) (a':=?_) #[true,true,true,true,true,true,true,true,true,true,true,true,true,true,true,true,true,true,false,false,false,false] rfl rfl (any_of HT_.out (by kernel_rfl)) (fun _ _ _ h => h) (Or.inr ⟨by rfl,rfl⟩) ?_ ?_
                    rotate_left
                    ·simp only [Act.put,List.setIfInBounds_toArray,List.set_cons_zero,List.set_cons_succ,i64_w,i32_w,IntKind.wrap_u8]
                     rfl
                    refine pure_ (i:=18) (N:=some 181) (v:=undef) (a':=?_) #[true,true,true,true,true,true,true,true,true,true,true,true,true,true,true,true,true,true,true,false,false,false] rfl rfl (any_of HT_.out (by kernel_rfl)) (fun _ _ _ h => h) (Or.inr ⟨by rfl,rfl⟩) ?_ ?_
                    rotate_left
                    ·simp only [Act.put,List.setIfInBounds_toArray,List.set_cons_zero,List.set_cons_succ,i64_w,i32_w,IntKind.wrap_u8]
                     rfl
                    refine pure_ (i:=19) (N:=some 182) (v:=?_) (a':=?_) #[true,true,true,true,true,true,true,true,true,true,true,true,true,true,true,true,true,true,true,true,false,false] rfl rfl (any_of HT_.out (by kernel_rfl)) (fun _ _ _ h => h) (Or.inl ⟨by rfl,?_⟩) ?_ ?_
                    rotate_left
                    ·intro w'
                     go_simp
                     with_reducible rfl
                    rotate_left
                    ·simp only [Act.put,List.setIfInBounds_toArray,List.set_cons_zero,List.set_cons_succ,i64_w,i32_w,IntKind.wrap_u8]
                     rfl
                    refine pure_ (i:=20) (N:=some 183) (v:=?_) (a':=?_) #[true,true,true,true,true,true,true,true,true,true,true,true,true,true,true,true,true,true,true,true,true,false] rfl rfl (any_of HT_.out (by kernel_rfl)) (fun _ _ _ h => h) (Or.inl ⟨by rfl,?_⟩) ?_ ?_
                    rotate_left
                    ·intro w'
                     go_simp
                     with_reducible rfl
                    rotate_left
                    ·simp only [Act.put,List.setIfInBounds_toArray,List.set_cons_zero,List.set_cons_succ,i64_w,i32_w,IntKind.wrap_u8]
                     rfl
                    refine pure_ (i:=21) (N:=some 2) (v:=?_) (a':=?_) #[true,true,true,true,true,true,true,true,true,true,true,true,true,true,true,true,true,true,true,true,true,true] rfl rfl (any_of HT_.out (by kernel_rfl)) (fun _ _ _ h => h) (Or.inl ⟨by rfl,?_⟩) ?_ ?_
                    rotate_left
                    ·intro w'
                     go_simp
                     with_reducible rfl
                    rotate_left
                    ·simp only [Act.put,List.setIfInBounds_toArray,List.set_cons_zero,List.set_cons_succ,i64_w,i32_w,IntKind.wrap_u8]
                     rfl
                    refine done_ (done_of HT_.out (by kernel_rfl)) ?_
                    try go_wp2
                    go_ret
                    refine FIN.out _ _ ?_
                    exact ⟨by first|rfl|(simp [errW_none,errW_some] <;> rfl)|(simp only [← hji10];first|rfl|(simp [errW_none,errW_some] <;> rfl))|(simp [*,errW_none,errW_some] <;> rfl),by repeat (first|(with_reducible first|exact HB.out|apply za_|apply zn_|apply zd_|refine zs_ ?_ GE357.out|refine zs_ ?_ GE370.out)|exact HB.out)⟩
                  ·rw [if_neg c109] at H
                   have c109b0 : (t366 == ((rd x11_2 1) != 0)) = false:=by simpa using c109
                   (try (have c109b1 : decide (t366 = ((rd x11_2 1) != 0)) = false:=by simpa using c109))
                   (try (have c109b2 : (t366 == ((rd x11_2 1) != 0)) = false:=by simpa using c109))
                   (try (have c109b3 : ¬ (t366 = ((rd x11_2 1) != 0)):=by simpa using c109))
                   clear c109
                   exact absurd H (by simp)
                 ·rw [if_neg c108] at H
                  exact absurd H (by simp)
                ·rw [if_neg c107] at H
                 have c107b0 : (((rd_T34 l1_0 (ji10)).f0) == 7) = false:=beq_eq_false_iff_ne.mpr c107
                 have c107b1 : (((rd_T34 l1_0 (ji10)).f0) != 7) = true:=bne_iff_ne.mpr c107
                 by_cases c121 : ((rd_T34 l1_0 (ji10)).f0) = 11
                 ·rw [if_pos c121] at H
                  have c121b0 : (((rd_T34 l1_0 (ji10)).f0) == 11) = true:=beq_iff_eq.mpr c121
                  have c121b1 : (((rd_T34 l1_0 (ji10)).f0) != 11) = false:=bne_eq_false_iff_eq.mpr c121
                  clear c121
                  by_cases c122 : t366 = true
                  ·subst c122
                   have H1 : (if 0 < (x11_2.length : Int) then (some ((t365 == 1) == ((rd x11_2 0) == 0))) else (none)) = some r:=by rw [if_pos rfl] at H;exact H
                   clear H
                   have H:=H1
                   clear H1
                   by_cases c123 : 0 < (x11_2.length : Int)
                   ·rw [if_pos c123] at H
                    have c123b0 : decide (0 < (x11_2.length : Int)) = true:=decide_eq_true c123
                    have c123b1 : decide (0 < x11_2.length) = true:=decide_eq_true (by omega)
                    clear c123
                    obtain rfl:=Option.some.inj H
                    have hnb124:=NB370_357.out
                    have hnc124:=NB357_370.out
                    have hcz125_0 : wr.cell? ⟨gb370,0,none⟩ = some (.int .i64 ((rd_T34 l1_0 (ji10)).f0)):=(zc_ BK370.out 0).trans rfl
                    have hcz125_1 : wr.cell? ⟨gb370,1,none⟩ = some (.int .i64 ((rd_T34 l1_0 (ji10)).f1)):=(zc_ BK370.out 1).trans rfl
                    have hcz125_2 : wr.cell? ⟨gb370,2,none⟩ = some (.string ((rd_T34 l1_0 (ji10)).f2)):=(zc_ BK370.out 2).trans rfl
                    have hcz125_3 : wr.cell? ⟨gb370,3,none⟩ = some (.slice A369_3 ((rd_T34 l1_0 (ji10)).f3).length c369_3):=(zc_ BK370.out 3).trans rfl
                    have hfz125_0:=zf_ BK370.out 0
                    have hfz125_1:=zf_ BK370.out 1
                    have hfz125_2:=zf_ BK370.out 2
                    have hfz125_3:=zf_ BK370.out 3
                    obtain ⟨Ao126,co126,eo126⟩:=Kd.R_slice HO_11.out
                    subst eo126
                    have p395 : 0 ≤ (0 : Int):=(by omega)
                    have q395 : 0 < (x11_2.length : Int):=zo_
                    obtain ⟨ad395,e395,hx395_0⟩:=Kd.at_int (Kd.R_reads' HO_11.out).2.2 0 p395 q395
                    cases e395
                    have qi395 : (0 < x11_2.length) = True:=eq_true (by omega)
                    (try rw [show ((0 : Int)).toNat = 0 from rfl] at hx395_0)
                    (try rw [Addr.add_zero'] at hx395_0)
                    replace p395:=eq_true p395
                    replace q395:=eq_true q395
                    go_wp2
                    go_ret
                    refine FIN.out _ _ ?_
                    exact ⟨by first|rfl|(simp [errW_none,errW_some] <;> rfl)|(simp only [← hji10];first|rfl|(simp [errW_none,errW_some] <;> rfl))|(simp [*,errW_none,errW_some] <;> rfl),by repeat (first|(with_reducible first|exact HB.out|apply za_|apply zn_|apply zd_|refine zs_ ?_ GE357.out|refine zs_ ?_ GE370.out)|exact HB.out)⟩
                   ·rw [if_neg c123] at H
                    exact absurd H (by simp)
                  ·replace c122:=Bool.eq_false_iff.mpr c122
                   subst c122
                   have H1 : (none) = some r:=by rw [if_neg (show ¬ (false = true) by decide)] at H;exact H
                   clear H
                   have H:=H1
                   clear H1
                   exact absurd H (by simp)
                 ·rw [if_neg c121] at H
                  have c121b0 : (((rd_T34 l1_0 (ji10)).f0) == 11) = false:=beq_eq_false_iff_ne.mpr c121
                  have c121b1 : (((rd_T34 l1_0 (ji10)).f0) != 11) = true:=bne_iff_ne.mpr c121
                  by_cases c127 : ((rd_T34 l1_0 (ji10)).f0) = 2
                  ·rw [if_pos c127] at H
                   have c127b0 : (((rd_T34 l1_0 (ji10)).f0) == 2) = true:=beq_iff_eq.mpr c127
                   have c127b1 : (((rd_T34 l1_0 (ji10)).f0) != 2) = false:=bne_eq_false_iff_eq.mpr c127
                   clear c127
                   replace H:=Option.bind_eq_some_iff.mp H
                   obtain ⟨⟨t396,t397⟩,A1280,H⟩:=H
                   replace H : (if (t366 == t397) = true then (some (t365 == t396)) else (none)) = some r:=H
                   have A128:=zm_ A1280
                   clear A1280
                   by_cases c129 : (t366 == t397) = true
                   ·rw [if_pos c129] at H
                    have c129b0 : (t366 == t397) = true:=c129
                    (try (have c129b1 : decide (t366 = t397) = true:=by simpa using c129))
                    (try (have c129b2 : (t366 == t397) = true:=by simpa using c129))
                    clear c129
                    obtain rfl:=Option.some.inj H
                    have hnb130:=NB370_357.out
                    have hnc130:=NB357_370.out
                    have hcz131_0 : wr.cell? ⟨gb370,0,none⟩ = some (.int .i64 ((rd_T34 l1_0 (ji10)).f0)):=(zc_ BK370.out 0).trans rfl
                    have hcz131_1 : wr.cell? ⟨gb370,1,none⟩ = some (.int .i64 ((rd_T34 l1_0 (ji10)).f1)):=(zc_ BK370.out 1).trans rfl
                    have hcz131_2 : wr.cell? ⟨gb370,2,none⟩ = some (.string ((rd_T34 l1_0 (ji10)).f2)):=(zc_ BK370.out 2).trans rfl
                    have hcz131_3 : wr.cell? ⟨gb370,3,none⟩ = some (.slice A369_3 ((rd_T34 l1_0 (ji10)).f3).length c369_3):=(zc_ BK370.out 3).trans rfl
                    have hfz131_0:=zf_ BK370.out 0
                    have hfz131_1:=zf_ BK370.out 1
                    have hfz131_2:=zf_ BK370.out 2
                    have hfz131_3:=zf_ BK370.out 3
                    go_wp2_with (first|((with_reducible refine gate_callee (f:=19) rfl ?_);refine goesL_ (some 202) rfl rfl Try.func19 (by kernel_rfl) rfl #[.slice Ao20 t358.length co20,.string ((rd_T34 l1_0 (ji10)).f2)] rfl (by (try simp only [List.map_toArray,List.map_cons,List.map_nil]);first|done|(simp only [hji10];rfl)|rfl|(simp only [List.length_drop,List.length_take];rfl)) ?_;(with_reducible refine (spec_EnvGet.calls k2 _ _ t358 ((rd_T34 l1_0 (ji10)).f2) t396 t397 _ ?side1 ?side2 A128.out).mono ?_);(case side1 => repeat (first|exact (Kd.R_reads' HO_4.out).2.2|(with_reducible refine Kd.C_alloc ?_ _)|(with_reducible refine Kd.C_drewN ?_ _)|(with_reducible refine Kd.C_drew ?_)));(case side2 => exact (Kd.R_reads' HO_4.out).2.1);rintro e w' ⟨rfl,⟨nd,rfl⟩⟩;refine ⟨_,rfl,?_⟩))
                    go_ret
                    refine FIN.out _ _ ?_
                    exact ⟨by first|rfl|(simp [errW_none,errW_some] <;> rfl)|(simp only [← hji10];first|rfl|(simp [errW_none,errW_some] <;> rfl))|(simp [*,errW_none,errW_some] <;> rfl),by repeat (first|(with_reducible first|exact HB.out|apply za_|apply zn_|apply zd_|refine zs_ ?_ GE357.out|refine zs_ ?_ GE370.out)|exact HB.out)⟩
                   ·rw [if_neg c129] at H
                    exact absurd H (by simp)
                  ·rw [if_neg c127] at H
                   have c127b0 : (((rd_T34 l1_0 (ji10)).f0) == 2) = false:=beq_eq_false_iff_ne.mpr c127
                   have c127b1 : (((rd_T34 l1_0 (ji10)).f0) != 2) = true:=bne_iff_ne.mpr c127
                   by_cases c132 : t366 = true
                   ·subst c132
                    have H1 : (if t365 = 0 then (some true) else (some (t365 == 1))) = some r:=by rw [if_pos rfl] at H;exact H
                    clear H
                    have H:=H1
                    clear H1
                    by_cases c133 : t365 = 0
                    ·rw [if_pos c133] at H
                     have c133b0 : (t365 == 0) = true:=beq_iff_eq.mpr c133
                     have c133b1 : (t365 != 0) = false:=bne_eq_false_iff_eq.mpr c133
                     clear c133
                     obtain rfl:=Option.some.inj H
                     have hnb134:=NB370_357.out
                     have hnc134:=NB357_370.out
                     have hcz135_0 : wr.cell? ⟨gb370,0,none⟩ = some (.int .i64 ((rd_T34 l1_0 (ji10)).f0)):=(zc_ BK370.out 0).trans rfl
                     have hcz135_1 : wr.cell? ⟨gb370,1,none⟩ = some (.int .i64 ((rd_T34 l1_0 (ji10)).f1)):=(zc_ BK370.out 1).trans rfl
                     have hcz135_2 : wr.cell? ⟨gb370,2,none⟩ = some (.string ((rd_T34 l1_0 (ji10)).f2)):=(zc_ BK370.out 2).trans rfl
                     have hcz135_3 : wr.cell? ⟨gb370,3,none⟩ = some (.slice A369_3 ((rd_T34 l1_0 (ji10)).f3).length c369_3):=(zc_ BK370.out 3).trans rfl
                     have hfz135_0:=zf_ BK370.out 0
                     have hfz135_1:=zf_ BK370.out 1
                     have hfz135_2:=zf_ BK370.out 2
                     have hfz135_3:=zf_ BK370.out 3
                     go_wp2
                     go_ret
                     refine FIN.out _ _ ?_
                     exact ⟨by first|rfl|(simp [errW_none,errW_some] <;> rfl)|(simp only [← hji10];first|rfl|(simp [errW_none,errW_some] <;> rfl))|(simp [*,errW_none,errW_some] <;> rfl),by repeat (first|(with_reducible first|exact HB.out|apply za_|apply zn_|apply zd_|refine zs_ ?_ GE357.out|refine zs_ ?_ GE370.out)|exact HB.out)⟩
                    ·rw [if_neg c133] at H
                     have c133b0 : (t365 == 0) = false:=beq_eq_false_iff_ne.mpr c133
                     have c133b1 : (t365 != 0) = true:=bne_iff_ne.mpr c133
                     obtain rfl:=Option.some.inj H
                     have hnb136:=NB370_357.out
                     have hnc136:=NB357_370.out
                     have hcz137_0 : wr.cell? ⟨gb370,0,none⟩ = some (.int .i64 ((rd_T34 l1_0 (ji10)).f0)):=(zc_ BK370.out 0).trans rfl
                     have hcz137_1 : wr.cell? ⟨gb370,1,none⟩ = some (.int .i64 ((rd_T34 l1_0 (ji10)).f1)):=(zc_ BK370.out 1).trans rfl
                     have hcz137_2 : wr.cell? ⟨gb370,2,none⟩ = some (.string ((rd_T34 l1_0 (ji10)).f2)):=(zc_ BK370.out 2).trans rfl
                     have hcz137_3 : wr.cell? ⟨gb370,3,none⟩ = some (.slice A369_3 ((rd_T34 l1_0 (ji10)).f3).length c369_3):=(zc_ BK370.out 3).trans rfl
                     have hfz137_0:=zf_ BK370.out 0
                     have hfz137_1:=zf_ BK370.out 1
                     have hfz137_2:=zf_ BK370.out 2
                     have hfz137_3:=zf_ BK370.out 3
                     go_wp2
                     go_ret
                     refine FIN.out _ _ ?_
                     exact ⟨by first|rfl|(simp [errW_none,errW_some] <;> rfl)|(simp only [← hji10];first|rfl|(simp [errW_none,errW_some] <;> rfl))|(simp [*,errW_none,errW_some] <;> rfl),by repeat (first|(with_reducible first|exact HB.out|apply za_|apply zn_|apply zd_|refine zs_ ?_ GE357.out|refine zs_ ?_ GE370.out)|exact HB.out)⟩
                   ·replace c132:=Bool.eq_false_iff.mpr c132
                    subst c132
                    have H1 : (none) = some r:=by rw [if_neg (show ¬ (false = true) by decide)] at H;exact H
                    clear H
                    have H:=H1
                    clear H1
                    exact absurd H (by simp)
    ·rw [if_neg c12] at H
     exact absurd H (by simp)
   ·rw [if_neg c11] at H
    exact absurd H (by simp)
  ·rw [if_neg c7] at H
   exact absurd H (by simp)

/-- The one plain statement. -/
def laws_FnExprs.Pure : Prop:=∀ (l0 : List Int),l0.length ≤ maxLen → l0.length * 1 ≤ 140737488351232 → (∀ x ∈ l0,(Lit.int .u8 x).wf = true) → ∃ k,laws_FnExprs.f k l0 = some true
theorem laws_FnExprs.walk (P : laws_FnExprs.Pure) (a0 : Option Addr) (len0 cap0 : Nat) (z0 : List Int) (w : World) (w0 : (a0 = none ∧ len0 = 0 ∧ cap0 = 0 ∧ z0 = []) ∨ ∃ x,a0 = some x ∧ len0 ≤ cap0 ∧ cap0 ≤ maxLen ∧ z0.length = cap0 ∧ (∀ i,i < z0.length → w.cell? (x.add i) = some (.int .u8 (z0.getD i 0))) ∧ ∀ n ∈ z0,(Lit.int .u8 n).wf = true) (y0 : len0 * 1 ≤ 140737488351232) :
  Calls Try.prog 4 #[.slice a0 len0 cap0] w fun e w' => e = .returned (.bool true) ∧ Below w.heap.size w w':=by
 obtain ⟨l0,rfl,hr0,hm0,hw0,hc0⟩:=ReadsInt.ofRowC w0
 obtain ⟨k,h⟩:=P l0 hm0 y0 hw0
 refine (laws_FnExprs.calls k _ _ l0 true w (Kd.C_of_reads (d:=(0 : Int)) (h1:=fun _ => rfl) hr0) hc0 h).mono ?_
 rintro e w' ⟨rfl,hd⟩
 exact ⟨rfl,hd⟩

end Go.Proofs.Ytnmhggdaccbbfaa.MFnExprs
