import Derived.Test.YtnmhggdaccbbfaaDoorMFnExactShowExprx0
import Derived.Test.YtnmhggdaccbbfaaDoorMFnExactShowExprx2
import Derived.Test.YtnmhggdaccbbfaaDoorMFnExactShowExprx3
namespace Go.Proofs.YtnmhggdaccbbfaaDoor.MFnExactShowExpr
open Go.RowKit Go.Proofs.YtnmhggdaccbbfaaDoorW.PrintWords Go.Proofs.YtnmhggdaccbbfaaDoorW.PrintLast Go.Proofs.YtnmhggdaccbbfaaDoorW.PrintMore
attribute [local go_sem] max2_int min2_int max_two min_two max_three min_three max_four min_four
set_option linter.unusedVariables false
set_option linter.unusedSimpArgs false

def spec_l04Show.f : Nat → List (S70) → Int → Option (ByteArray)
 |0,_,_ => none
 |k + 1,l0_0,a1 => if 0 ≤ a1 then (if a1 < (l0_0.length : Int) then (if ((rd_T70 l0_0 a1).f0) = 1 then ((spec_Decimal.f k ((rd_T70 l0_0 a1).f1)).bind fun t145 => (some t145)) else (if ((rd_T70 l0_0 a1).f0) = 2 then (some ((rd_T70 l0_0 a1).f2)) else (if ((rd_T70 l0_0 a1).f0) = 3 then (some (⟨#[64]⟩ : ByteArray)) else (if ((rd_T70 l0_0 a1).f0) = 11 then (if 0 < (((rd_T70 l0_0 a1).f3).length : Int) then ((spec_l04Show.f k l0_0 (rd ((rd_T70 l0_0 a1).f3) 0)).bind fun t147 => (if 1 + t147.size ≤ 9223372036854775807 then (some ((⟨#[33]⟩ : ByteArray) ++ t147)) else (none))) else (none)) else ((some (([(⟨#[43]⟩ : ByteArray),(⟨#[45]⟩ : ByteArray),(⟨#[42]⟩ : ByteArray),(⟨#[47]⟩ : ByteArray),(⟨#[60]⟩ : ByteArray),(⟨#[61]⟩ : ByteArray),(⟨#[38]⟩ : ByteArray)] : List ByteArray) : List ByteArray)).bind fun y148 => (if 0 < (((rd_T70 l0_0 a1).f3).length : Int) then ((spec_l04Show.f k l0_0 (rd ((rd_T70 l0_0 a1).f3) 0)).bind fun t152 => (if 1 + t152.size ≤ 9223372036854775807 then (if ((⟨#[40]⟩ : ByteArray) ++ t152).size + 1 ≤ 9223372036854775807 then (if 0 ≤ (wrap64 (((rd_T70 l0_0 a1).f0) - 4)) then (if (wrap64 (((rd_T70 l0_0 a1).f0) - 4)) < (y148.length : Int) then (if (((⟨#[40]⟩ : ByteArray) ++ t152) ++ (⟨#[32]⟩ : ByteArray)).size + (rdOf ByteArray.empty y148 (wrap64 (((rd_T70 l0_0 a1).f0) - 4))).size ≤ 9223372036854775807 then (if ((((⟨#[40]⟩ : ByteArray) ++ t152) ++ (⟨#[32]⟩ : ByteArray)) ++ (rdOf ByteArray.empty y148 (wrap64 (((rd_T70 l0_0 a1).f0) - 4)))).size + 1 ≤ 9223372036854775807 then (if 1 < (((rd_T70 l0_0 a1).f3).length : Int) then ((spec_l04Show.f k l0_0 (rd ((rd_T70 l0_0 a1).f3) 1)).bind fun t155 => (if (((((⟨#[40]⟩ : ByteArray) ++ t152) ++ (⟨#[32]⟩ : ByteArray)) ++ (rdOf ByteArray.empty y148 (wrap64 (((rd_T70 l0_0 a1).f0) - 4)))) ++ (⟨#[32]⟩ : ByteArray)).size + t155.size ≤ 9223372036854775807 then (if ((((((⟨#[40]⟩ : ByteArray) ++ t152) ++ (⟨#[32]⟩ : ByteArray)) ++ (rdOf ByteArray.empty y148 (wrap64 (((rd_T70 l0_0 a1).f0) - 4)))) ++ (⟨#[32]⟩ : ByteArray)) ++ t155).size + 1 ≤ 9223372036854775807 then (some (((((((⟨#[40]⟩ : ByteArray) ++ t152) ++ (⟨#[32]⟩ : ByteArray)) ++ (rdOf ByteArray.empty y148 (wrap64 (((rd_T70 l0_0 a1).f0) - 4)))) ++ (⟨#[32]⟩ : ByteArray)) ++ t155) ++ (⟨#[41]⟩ : ByteArray))) else (none)) else (none))) else (none)) else (none)) else (none)) else (none)) else (none)) else (none)) else (none))) else (none))))))) else (none)) else (none)
theorem spec_l04Show.mono_l : ∀ k,(∀ y0 y1,LeO (spec_l04Show.f k y0 y1) (spec_l04Show.f (k + 1) y0 y1))
 |0 => fun _ _ r h => by simp [spec_l04Show.f] at h
 |k + 1 => by
  have ih0:=spec_l04Show.mono_l k
  ·intro y0 y1
   unfold spec_l04Show.f
   repeat' first
   |(with_reducible exact ih0 _ _)
   |(with_reducible exact spec_Decimal.mono _ _)
   |(with_reducible exact LeO.refl _)
   |(with_reducible exact LeO.none _)
   |(with_reducible refine LeO.ite ?_ ?_)
   |(with_reducible refine LeO.bind ?_ (fun _ => ?_))
theorem spec_l04Show.mono : ∀ a0 a1 k,LeO (spec_l04Show.f k a0 a1) (spec_l04Show.f (k + 1) a0 a1):=by
 intro a0 a1 k
 have ih0:=spec_l04Show.mono_l k
 exact ih0 a0 a1
def spec_l04Show.T10 : Bool × List (List Nat × List Nat):=(true,[([],[]),([],[]),([1],[1]),([2],[2]),([3],[3]),([0,4],[0,4]),([5],[5]),([6,5,0,1,2,3,4,5,6],[6])])
def spec_l04Show.B10 : List Nat:=[0,0,2,6,14,31,63,127]
theorem spec_l04Show.tab10 : rtab .any (opsOf Tryd.f43 10) = spec_l04Show.T10:=by kernel_rfl
theorem spec_l04Show.bits10 : waitsOk spec_l04Show.T10.2 spec_l04Show.B10 = true:=by kernel_rfl
def spec_l04Show.T12 : Bool × List (List Nat × List Nat):=(true,[([],[]),([],[]),([1],[1]),([2],[2]),([3],[3]),([0,4],[0,4]),([5],[5]),([6],[6]),([],[]),([],[]),([9],[9]),([10],[10]),([8,11],[8,11]),([12],[12]),([7,13],[7,13]),([14],[14]),([],[]),([],[]),([17],[17]),([18],[18]),([19],[19]),([16,20,5],[16,20]),([15,21],[15,21]),([22],[22]),([23,21,0,1,2,3,4,5,6,7,8,9,10,11,12,13,14,15,16,17,18,19,20,21,22,23],[23])])
def spec_l04Show.B12 : List Nat:=[0,0,2,6,14,31,63,127,0,0,512,1536,3840,7936,16383,32767,0,0,131072,393216,917504,2031679,4194303,8388607,16777215]
theorem spec_l04Show.tab12 : rtab .any (opsOf Tryd.f43 12) = spec_l04Show.T12:=by kernel_rfl
theorem spec_l04Show.bits12 : waitsOk spec_l04Show.T12.2 spec_l04Show.B12 = true:=by kernel_rfl
set_option maxHeartbeats 8000000 in
set_option maxRecDepth 100000 in
theorem spec_l04Show.calls (k : Nat) : ∀ (A0_0 : Option Addr) (c0_0 : Nat) (l0_0 : List (S70)) (a1 : Int) (r : ByteArray) (w : World) (hr0_0 : Kd.C k70 w A0_0 l0_0.length l0_0) (hc0_0 : l0_0.length ≤ c0_0) (h : spec_l04Show.f k l0_0 a1 = some r),
  Calls Tryd.prog 43 #[.agg #[.slice A0_0 l0_0.length c0_0],.int .i64 a1] w fun e w' => e = .returned (.string r) ∧ Below w.heap.size w w':=by
 induction k using Nat.strongRecOn with
 |_ k ih =>
 intro A0_0 c0_0 l0_0 a1 r w hr0_0 hc0_0 h
 cases k with
 |zero => exact absurd h (by simp [spec_l04Show.f])
 |succ k =>
 simp only [spec_l04Show.f] at h
 have hu44:=Tryd.underlying44
 have hu70:=Tryd.underlying70
 have HR0_0:=zm_ hr0_0
 have HC0_0:=zm_ hc0_0
 clear hr0_0 hc0_0
 have HB:=zm_ (Below.refl w.heap.size w)
 have H : (if 0 ≤ a1 then (if a1 < (l0_0.length : Int) then (if ((rd_T70 l0_0 a1).f0) = 1 then ((spec_Decimal.f k ((rd_T70 l0_0 a1).f1)).bind fun t145 => (some t145)) else (if ((rd_T70 l0_0 a1).f0) = 2 then (some ((rd_T70 l0_0 a1).f2)) else (if ((rd_T70 l0_0 a1).f0) = 3 then (some (⟨#[64]⟩ : ByteArray)) else (if ((rd_T70 l0_0 a1).f0) = 11 then (if 0 < (((rd_T70 l0_0 a1).f3).length : Int) then ((spec_l04Show.f k l0_0 (rd ((rd_T70 l0_0 a1).f3) 0)).bind fun t147 => (if 1 + t147.size ≤ 9223372036854775807 then (some ((⟨#[33]⟩ : ByteArray) ++ t147)) else (none))) else (none)) else ((some (([(⟨#[43]⟩ : ByteArray),(⟨#[45]⟩ : ByteArray),(⟨#[42]⟩ : ByteArray),(⟨#[47]⟩ : ByteArray),(⟨#[60]⟩ : ByteArray),(⟨#[61]⟩ : ByteArray),(⟨#[38]⟩ : ByteArray)] : List ByteArray) : List ByteArray)).bind fun y148 => (if 0 < (((rd_T70 l0_0 a1).f3).length : Int) then ((spec_l04Show.f k l0_0 (rd ((rd_T70 l0_0 a1).f3) 0)).bind fun t152 => (if 1 + t152.size ≤ 9223372036854775807 then (if ((⟨#[40]⟩ : ByteArray) ++ t152).size + 1 ≤ 9223372036854775807 then (if 0 ≤ (wrap64 (((rd_T70 l0_0 a1).f0) - 4)) then (if (wrap64 (((rd_T70 l0_0 a1).f0) - 4)) < (y148.length : Int) then (if (((⟨#[40]⟩ : ByteArray) ++ t152) ++ (⟨#[32]⟩ : ByteArray)).size + (rdOf ByteArray.empty y148 (wrap64 (((rd_T70 l0_0 a1).f0) - 4))).size ≤ 9223372036854775807 then (if ((((⟨#[40]⟩ : ByteArray) ++ t152) ++ (⟨#[32]⟩ : ByteArray)) ++ (rdOf ByteArray.empty y148 (wrap64 (((rd_T70 l0_0 a1).f0) - 4)))).size + 1 ≤ 9223372036854775807 then (if 1 < (((rd_T70 l0_0 a1).f3).length : Int) then ((spec_l04Show.f k l0_0 (rd ((rd_T70 l0_0 a1).f3) 1)).bind fun t155 => (if (((((⟨#[40]⟩ : ByteArray) ++ t152) ++ (⟨#[32]⟩ : ByteArray)) ++ (rdOf ByteArray.empty y148 (wrap64 (((rd_T70 l0_0 a1).f0) - 4)))) ++ (⟨#[32]⟩ : ByteArray)).size + t155.size ≤ 9223372036854775807 then (if ((((((⟨#[40]⟩ : ByteArray) ++ t152) ++ (⟨#[32]⟩ : ByteArray)) ++ (rdOf ByteArray.empty y148 (wrap64 (((rd_T70 l0_0 a1).f0) - 4)))) ++ (⟨#[32]⟩ : ByteArray)) ++ t155).size + 1 ≤ 9223372036854775807 then (some (((((((⟨#[40]⟩ : ByteArray) ++ t152) ++ (⟨#[32]⟩ : ByteArray)) ++ (rdOf ByteArray.empty y148 (wrap64 (((rd_T70 l0_0 a1).f0) - 4)))) ++ (⟨#[32]⟩ : ByteArray)) ++ t155) ++ (⟨#[41]⟩ : ByteArray))) else (none)) else (none))) else (none)) else (none)) else (none)) else (none)) else (none)) else (none)) else (none))) else (none))))))) else (none)) else (none)) = some r:=h
 clear h
 by_cases c3 : 0 ≤ a1
 ·rw [if_pos c3] at H
  have c3b0 : decide (0 ≤ a1) = true:=decide_eq_true c3
  clear c3
  by_cases c4 : a1 < (l0_0.length : Int)
  ·rw [if_pos c4] at H
   have c4b0 : decide (a1 < (l0_0.length : Int)) = true:=decide_eq_true c4
   clear c4
   by_cases c5 : ((rd_T70 l0_0 a1).f0) = 1
   ·rw [if_pos c5] at H
    have c5b0 : (((rd_T70 l0_0 a1).f0) == 1) = true:=beq_iff_eq.mpr c5
    have c5b1 : (((rd_T70 l0_0 a1).f0) != 1) = false:=bne_eq_false_iff_eq.mpr c5
    clear c5
    replace H:=Option.bind_eq_some_iff.mp H
    obtain ⟨t145,A60,H⟩:=H
    replace H : (some t145) = some r:=H
    have A6:=zm_ A60
    clear A60
    obtain rfl:=Option.some.inj H
    go_enter Tryd.func43,Tryd.ntmps43
    go_wp2_with (first|((with_reducible refine gate_dst (N:=2) rfl ?_);refine box_event ?hg (N:=2) ?hd (cs:=#[.slice A0_0 l0_0.length c0_0]) (t:=44) ?hr ?_;(case hd => rfl);(case hg => rfl);(case hr => first|(go_simp;done)|(go_simp;rfl));intro gb142 hg w7 hbox hb;have n0_:=zm_ (below_step (by repeat (first|(with_reducible first|exact HB.out|apply za_|apply zn_|apply zd_)|exact HB.out)) hb);have n1_:=zm_ (hbox);have n2_:=zm_ ((by rw [hg];exact (below_size (by repeat (first|(with_reducible first|exact HB.out|apply za_|apply zn_|apply zd_)|exact HB.out))) : w.heap.size ≤ gb142));have n3_:=zm_ ((by rw [hg];exact (below_size (by repeat (first|(with_reducible first|exact HB.out|apply za_|apply zn_|apply zd_)|exact HB.out))) : w.heap.size ≤ gb142));clear HB;have HB:=n0_;have BK142:=n1_;have GW142:=n2_;have GE142:=n3_;clear n0_ n1_ n2_ n3_;clear hb hbox hg;have hcz8_0 : w7.cell? ⟨gb142,0,none⟩ = some (.slice A0_0 l0_0.length c0_0):=(zc_ BK142.out 0).trans rfl;have hfz8_0:=zf_ BK142.out 0;have p143 : 0 ≤ (a1 : Int):=zo_;have q143 : a1 < (l0_0.length : Int):=zo_;obtain ⟨ad143,A143_3,c143_3,e143,hx143_0,hx143_1,hx143_2,hx143_3,hl143_3,hi143_3⟩:=at_T70 HR0_0.out a1 p143 q143;cases e143;replace hx143_0:=(HB.out.cell (zb_ w _ hx143_0)).trans hx143_0;replace hx143_1:=(HB.out.cell (zb_ w _ hx143_1)).trans hx143_1;replace hx143_2:=(HB.out.cell (zb_ w _ hx143_2)).trans hx143_2;replace hx143_3:=(HB.out.cell (zb_ w _ hx143_3)).trans hx143_3;have HR143_3:=zm_ hi143_3;have HC143_3:=zm_ hl143_3;clear hi143_3 hl143_3;replace p143:=eq_true p143;replace q143:=eq_true q143)|((with_reducible refine gate_dst (N:=5) rfl ?_);refine box_event ?hg (N:=5) ?hd (cs:=#[.int .i64 0,.int .i64 0,.string (⟨#[]⟩ : ByteArray),.slice none 0 0]) (t:=70) ?hr ?_;(case hd => rfl);(case hg => rfl);(case hr => first|(go_simp;done)|(go_simp;rfl));intro gb144 hg w9 hbox hb;have n0_:=zm_ (blk_below (g:=gb142) (o:=.cells #[.slice (some ad143) l0_0.length c0_0] 44 (0,0)) (by (with_reducible repeat first|refine zl_ ?_ _|refine zr_ ?_|refine zk_ ?_ _);exact BK142.out) hb);have n1_:=zm_ (below_step (by repeat (first|(with_reducible first|exact HB.out|apply za_|apply zn_|apply zd_|refine zs_ ?_ GE142.out)|exact HB.out)) hb);have n2_:=zm_ (hbox);have n3_:=zm_ ((by rw [hg];exact (below_size (by repeat (first|(with_reducible first|exact HB.out|apply za_|apply zn_|apply zd_|refine zs_ ?_ GE142.out)|exact HB.out))) : w.heap.size ≤ gb144));have n4_:=zm_ ((by rw [hg];exact (below_size (by repeat (first|(with_reducible first|exact HB.out|apply za_|apply zn_|apply zd_|refine zs_ ?_ GE142.out)|exact HB.out))) : w.heap.size ≤ gb144));have n5_:=zm_ ((by rw [hg];exact Nat.ne_of_lt (blk_lt (g:=gb142) (o:=.cells #[.slice (some ad143) l0_0.length c0_0] 44 (0,0)) (by (with_reducible repeat first|refine zl_ ?_ _|refine zr_ ?_|refine zk_ ?_ _);exact BK142.out)) : gb142 ≠ gb144));have n6_:=zm_ ((by rw [hg];exact Nat.ne_of_gt (blk_lt (g:=gb142) (o:=.cells #[.slice (some ad143) l0_0.length c0_0] 44 (0,0)) (by (with_reducible repeat first|refine zl_ ?_ _|refine zr_ ?_|refine zk_ ?_ _);exact BK142.out)) : gb144 ≠ gb142));clear BK142;clear HB;have BK142:=n0_;have HB:=n1_;have BK144:=n2_;have GW144:=n3_;have GE144:=n4_;have NB142_144:=n5_;have NB144_142:=n6_;clear n0_ n1_ n2_ n3_ n4_ n5_ n6_;clear hb hbox hg;have hnb10:=NB144_142.out;have hnc10:=NB142_144.out;have hcz11_0 : w9.cell? ⟨gb144,0,none⟩ = some (.int .i64 0):=(zc_ BK144.out 0).trans rfl;have hcz11_1 : w9.cell? ⟨gb144,1,none⟩ = some (.int .i64 0):=(zc_ BK144.out 1).trans rfl;have hcz11_2 : w9.cell? ⟨gb144,2,none⟩ = some (.string (⟨#[]⟩ : ByteArray)):=(zc_ BK144.out 2).trans rfl;have hcz11_3 : w9.cell? ⟨gb144,3,none⟩ = some (.slice none 0 0):=(zc_ BK144.out 3).trans rfl;have hfz11_0:=zf_ BK144.out 0;have hfz11_1:=zf_ BK144.out 1;have hfz11_2:=zf_ BK144.out 2;have hfz11_3:=zf_ BK144.out 3)|((with_reducible refine gate_callee (f:=8) rfl ?_);refine goesL_ (some 18) rfl rfl Tryd.func8 (by kernel_rfl) rfl #[.int .i64 ((rd_T70 l0_0 a1).f1)] rfl (by (try simp only [List.map_toArray,List.map_cons,List.map_nil]);first|done|rfl|(simp only [List.length_drop,List.length_take];rfl)) ?_;(with_reducible refine (spec_Decimal.calls k ((rd_T70 l0_0 a1).f1) t145 _ A6.out).mono ?_);rintro e w12 ⟨rfl,hb⟩;refine ⟨_,rfl,?_⟩;have n0_:=zm_ (blk_below (g:=gb142) (o:=.cells #[.slice (some ad143) l0_0.length c0_0] 44 (0,0)) (by (with_reducible repeat first|refine zl_ ?_ _|refine zr_ ?_|refine zk_ ?_ _);refine blk_far ?_ NB142_144.out _;(with_reducible repeat first|refine zl_ ?_ _|refine zr_ ?_|refine zk_ ?_ _);refine blk_far ?_ NB142_144.out _;(with_reducible repeat first|refine zl_ ?_ _|refine zr_ ?_|refine zk_ ?_ _);refine blk_far ?_ NB142_144.out _;(with_reducible repeat first|refine zl_ ?_ _|refine zr_ ?_|refine zk_ ?_ _);refine blk_far ?_ NB142_144.out _;(with_reducible repeat first|refine zl_ ?_ _|refine zr_ ?_|refine zk_ ?_ _);exact BK142.out) hb);have n1_:=zm_ (blk_below (g:=gb144) (o:=.cells #[.int .i64 ((rd_T70 l0_0 a1).f0),.int .i64 ((rd_T70 l0_0 a1).f1),.string ((rd_T70 l0_0 a1).f2),.slice A143_3 ((rd_T70 l0_0 a1).f3).length c143_3] 70 (0,0)) (by (with_reducible repeat first|refine zl_ ?_ _|refine zr_ ?_|refine zk_ ?_ _);refine blk_put (cs:=#[.int .i64 ((rd_T70 l0_0 a1).f0),.int .i64 ((rd_T70 l0_0 a1).f1),.string ((rd_T70 l0_0 a1).f2),.slice none 0 0]) ?_ 3 _ rfl;(with_reducible repeat first|refine zl_ ?_ _|refine zr_ ?_|refine zk_ ?_ _);refine blk_put (cs:=#[.int .i64 ((rd_T70 l0_0 a1).f0),.int .i64 ((rd_T70 l0_0 a1).f1),.string (⟨#[]⟩ : ByteArray),.slice none 0 0]) ?_ 2 _ rfl;(with_reducible repeat first|refine zl_ ?_ _|refine zr_ ?_|refine zk_ ?_ _);refine blk_put (cs:=#[.int .i64 ((rd_T70 l0_0 a1).f0),.int .i64 0,.string (⟨#[]⟩ : ByteArray),.slice none 0 0]) ?_ 1 _ rfl;(with_reducible repeat first|refine zl_ ?_ _|refine zr_ ?_|refine zk_ ?_ _);refine blk_put (cs:=#[.int .i64 0,.int .i64 0,.string (⟨#[]⟩ : ByteArray),.slice none 0 0]) ?_ 0 _ rfl;(with_reducible repeat first|refine zl_ ?_ _|refine zr_ ?_|refine zk_ ?_ _);exact BK144.out) hb);have n2_:=zm_ (below_step (by repeat (first|(with_reducible first|exact HB.out|apply za_|apply zn_|apply zd_|refine zs_ ?_ GE142.out|refine zs_ ?_ GE144.out)|exact HB.out)) hb);clear BK142;clear BK144;clear HB;have BK142:=n0_;have BK144:=n1_;have HB:=n2_;clear n0_ n1_ n2_;(try clear hb);(try clear hb2);(try clear hk);(try clear hi)))
    go_ret
    exact ⟨by first|rfl|(simp [errW_none,errW_some] <;> rfl)|(simp [*,errW_none,errW_some] <;> rfl),by repeat (first|(with_reducible first|exact HB.out|apply za_|apply zn_|apply zd_|refine zs_ ?_ GE142.out|refine zs_ ?_ GE144.out)|exact HB.out)⟩
   ·rw [if_neg c5] at H
    have c5b0 : (((rd_T70 l0_0 a1).f0) == 1) = false:=beq_eq_false_iff_ne.mpr c5
    have c5b1 : (((rd_T70 l0_0 a1).f0) != 1) = true:=bne_iff_ne.mpr c5
    by_cases c13 : ((rd_T70 l0_0 a1).f0) = 2
    ·rw [if_pos c13] at H
     have c13b0 : (((rd_T70 l0_0 a1).f0) == 2) = true:=beq_iff_eq.mpr c13
     have c13b1 : (((rd_T70 l0_0 a1).f0) != 2) = false:=bne_eq_false_iff_eq.mpr c13
     clear c13
     obtain rfl:=Option.some.inj H
     go_enter Tryd.func43,Tryd.ntmps43
     go_wp2_with (first|((with_reducible refine gate_dst (N:=2) rfl ?_);refine box_event ?hg (N:=2) ?hd (cs:=#[.slice A0_0 l0_0.length c0_0]) (t:=44) ?hr ?_;(case hd => rfl);(case hg => rfl);(case hr => first|(go_simp;done)|(go_simp;rfl));intro gb142 hg w14 hbox hb;have n0_:=zm_ (below_step (by repeat (first|(with_reducible first|exact HB.out|apply za_|apply zn_|apply zd_)|exact HB.out)) hb);have n1_:=zm_ (hbox);have n2_:=zm_ ((by rw [hg];exact (below_size (by repeat (first|(with_reducible first|exact HB.out|apply za_|apply zn_|apply zd_)|exact HB.out))) : w.heap.size ≤ gb142));have n3_:=zm_ ((by rw [hg];exact (below_size (by repeat (first|(with_reducible first|exact HB.out|apply za_|apply zn_|apply zd_)|exact HB.out))) : w.heap.size ≤ gb142));clear HB;have HB:=n0_;have BK142:=n1_;have GW142:=n2_;have GE142:=n3_;clear n0_ n1_ n2_ n3_;clear hb hbox hg;have hcz15_0 : w14.cell? ⟨gb142,0,none⟩ = some (.slice A0_0 l0_0.length c0_0):=(zc_ BK142.out 0).trans rfl;have hfz15_0:=zf_ BK142.out 0;have p143 : 0 ≤ (a1 : Int):=zo_;have q143 : a1 < (l0_0.length : Int):=zo_;obtain ⟨ad143,A143_3,c143_3,e143,hx143_0,hx143_1,hx143_2,hx143_3,hl143_3,hi143_3⟩:=at_T70 HR0_0.out a1 p143 q143;cases e143;replace hx143_0:=(HB.out.cell (zb_ w _ hx143_0)).trans hx143_0;replace hx143_1:=(HB.out.cell (zb_ w _ hx143_1)).trans hx143_1;replace hx143_2:=(HB.out.cell (zb_ w _ hx143_2)).trans hx143_2;replace hx143_3:=(HB.out.cell (zb_ w _ hx143_3)).trans hx143_3;have HR143_3:=zm_ hi143_3;have HC143_3:=zm_ hl143_3;clear hi143_3 hl143_3;replace p143:=eq_true p143;replace q143:=eq_true q143)|((with_reducible refine gate_dst (N:=5) rfl ?_);refine box_event ?hg (N:=5) ?hd (cs:=#[.int .i64 0,.int .i64 0,.string (⟨#[]⟩ : ByteArray),.slice none 0 0]) (t:=70) ?hr ?_;(case hd => rfl);(case hg => rfl);(case hr => first|(go_simp;done)|(go_simp;rfl));intro gb144 hg w16 hbox hb;have n0_:=zm_ (blk_below (g:=gb142) (o:=.cells #[.slice (some ad143) l0_0.length c0_0] 44 (0,0)) (by (with_reducible repeat first|refine zl_ ?_ _|refine zr_ ?_|refine zk_ ?_ _);exact BK142.out) hb);have n1_:=zm_ (below_step (by repeat (first|(with_reducible first|exact HB.out|apply za_|apply zn_|apply zd_|refine zs_ ?_ GE142.out)|exact HB.out)) hb);have n2_:=zm_ (hbox);have n3_:=zm_ ((by rw [hg];exact (below_size (by repeat (first|(with_reducible first|exact HB.out|apply za_|apply zn_|apply zd_|refine zs_ ?_ GE142.out)|exact HB.out))) : w.heap.size ≤ gb144));have n4_:=zm_ ((by rw [hg];exact (below_size (by repeat (first|(with_reducible first|exact HB.out|apply za_|apply zn_|apply zd_|refine zs_ ?_ GE142.out)|exact HB.out))) : w.heap.size ≤ gb144));have n5_:=zm_ ((by rw [hg];exact Nat.ne_of_lt (blk_lt (g:=gb142) (o:=.cells #[.slice (some ad143) l0_0.length c0_0] 44 (0,0)) (by (with_reducible repeat first|refine zl_ ?_ _|refine zr_ ?_|refine zk_ ?_ _);exact BK142.out)) : gb142 ≠ gb144));have n6_:=zm_ ((by rw [hg];exact Nat.ne_of_gt (blk_lt (g:=gb142) (o:=.cells #[.slice (some ad143) l0_0.length c0_0] 44 (0,0)) (by (with_reducible repeat first|refine zl_ ?_ _|refine zr_ ?_|refine zk_ ?_ _);exact BK142.out)) : gb144 ≠ gb142));clear BK142;clear HB;have BK142:=n0_;have HB:=n1_;have BK144:=n2_;have GW144:=n3_;have GE144:=n4_;have NB142_144:=n5_;have NB144_142:=n6_;clear n0_ n1_ n2_ n3_ n4_ n5_ n6_;clear hb hbox hg;have hnb17:=NB144_142.out;have hnc17:=NB142_144.out;have hcz18_0 : w16.cell? ⟨gb144,0,none⟩ = some (.int .i64 0):=(zc_ BK144.out 0).trans rfl;have hcz18_1 : w16.cell? ⟨gb144,1,none⟩ = some (.int .i64 0):=(zc_ BK144.out 1).trans rfl;have hcz18_2 : w16.cell? ⟨gb144,2,none⟩ = some (.string (⟨#[]⟩ : ByteArray)):=(zc_ BK144.out 2).trans rfl;have hcz18_3 : w16.cell? ⟨gb144,3,none⟩ = some (.slice none 0 0):=(zc_ BK144.out 3).trans rfl;have hfz18_0:=zf_ BK144.out 0;have hfz18_1:=zf_ BK144.out 1;have hfz18_2:=zf_ BK144.out 2;have hfz18_3:=zf_ BK144.out 3))
     go_ret
     exact ⟨by first|rfl|(simp [errW_none,errW_some] <;> rfl)|(simp [*,errW_none,errW_some] <;> rfl),by repeat (first|(with_reducible first|exact HB.out|apply za_|apply zn_|apply zd_|refine zs_ ?_ GE142.out|refine zs_ ?_ GE144.out)|exact HB.out)⟩
    ·rw [if_neg c13] at H
     have c13b0 : (((rd_T70 l0_0 a1).f0) == 2) = false:=beq_eq_false_iff_ne.mpr c13
     have c13b1 : (((rd_T70 l0_0 a1).f0) != 2) = true:=bne_iff_ne.mpr c13
     by_cases c19 : ((rd_T70 l0_0 a1).f0) = 3
     ·rw [if_pos c19] at H
      have c19b0 : (((rd_T70 l0_0 a1).f0) == 3) = true:=beq_iff_eq.mpr c19
      have c19b1 : (((rd_T70 l0_0 a1).f0) != 3) = false:=bne_eq_false_iff_eq.mpr c19
      clear c19
      obtain rfl:=Option.some.inj H
      go_enter Tryd.func43,Tryd.ntmps43
      go_wp2_with (first|((with_reducible refine gate_dst (N:=2) rfl ?_);refine box_event ?hg (N:=2) ?hd (cs:=#[.slice A0_0 l0_0.length c0_0]) (t:=44) ?hr ?_;(case hd => rfl);(case hg => rfl);(case hr => first|(go_simp;done)|(go_simp;rfl));intro gb142 hg w20 hbox hb;have n0_:=zm_ (below_step (by repeat (first|(with_reducible first|exact HB.out|apply za_|apply zn_|apply zd_)|exact HB.out)) hb);have n1_:=zm_ (hbox);have n2_:=zm_ ((by rw [hg];exact (below_size (by repeat (first|(with_reducible first|exact HB.out|apply za_|apply zn_|apply zd_)|exact HB.out))) : w.heap.size ≤ gb142));have n3_:=zm_ ((by rw [hg];exact (below_size (by repeat (first|(with_reducible first|exact HB.out|apply za_|apply zn_|apply zd_)|exact HB.out))) : w.heap.size ≤ gb142));clear HB;have HB:=n0_;have BK142:=n1_;have GW142:=n2_;have GE142:=n3_;clear n0_ n1_ n2_ n3_;clear hb hbox hg;have hcz21_0 : w20.cell? ⟨gb142,0,none⟩ = some (.slice A0_0 l0_0.length c0_0):=(zc_ BK142.out 0).trans rfl;have hfz21_0:=zf_ BK142.out 0;have p143 : 0 ≤ (a1 : Int):=zo_;have q143 : a1 < (l0_0.length : Int):=zo_;obtain ⟨ad143,A143_3,c143_3,e143,hx143_0,hx143_1,hx143_2,hx143_3,hl143_3,hi143_3⟩:=at_T70 HR0_0.out a1 p143 q143;cases e143;replace hx143_0:=(HB.out.cell (zb_ w _ hx143_0)).trans hx143_0;replace hx143_1:=(HB.out.cell (zb_ w _ hx143_1)).trans hx143_1;replace hx143_2:=(HB.out.cell (zb_ w _ hx143_2)).trans hx143_2;replace hx143_3:=(HB.out.cell (zb_ w _ hx143_3)).trans hx143_3;have HR143_3:=zm_ hi143_3;have HC143_3:=zm_ hl143_3;clear hi143_3 hl143_3;replace p143:=eq_true p143;replace q143:=eq_true q143)|((with_reducible refine gate_dst (N:=5) rfl ?_);refine box_event ?hg (N:=5) ?hd (cs:=#[.int .i64 0,.int .i64 0,.string (⟨#[]⟩ : ByteArray),.slice none 0 0]) (t:=70) ?hr ?_;(case hd => rfl);(case hg => rfl);(case hr => first|(go_simp;done)|(go_simp;rfl));intro gb144 hg w22 hbox hb;have n0_:=zm_ (blk_below (g:=gb142) (o:=.cells #[.slice (some ad143) l0_0.length c0_0] 44 (0,0)) (by (with_reducible repeat first|refine zl_ ?_ _|refine zr_ ?_|refine zk_ ?_ _);exact BK142.out) hb);have n1_:=zm_ (below_step (by repeat (first|(with_reducible first|exact HB.out|apply za_|apply zn_|apply zd_|refine zs_ ?_ GE142.out)|exact HB.out)) hb);have n2_:=zm_ (hbox);have n3_:=zm_ ((by rw [hg];exact (below_size (by repeat (first|(with_reducible first|exact HB.out|apply za_|apply zn_|apply zd_|refine zs_ ?_ GE142.out)|exact HB.out))) : w.heap.size ≤ gb144));have n4_:=zm_ ((by rw [hg];exact (below_size (by repeat (first|(with_reducible first|exact HB.out|apply za_|apply zn_|apply zd_|refine zs_ ?_ GE142.out)|exact HB.out))) : w.heap.size ≤ gb144));have n5_:=zm_ ((by rw [hg];exact Nat.ne_of_lt (blk_lt (g:=gb142) (o:=.cells #[.slice (some ad143) l0_0.length c0_0] 44 (0,0)) (by (with_reducible repeat first|refine zl_ ?_ _|refine zr_ ?_|refine zk_ ?_ _);exact BK142.out)) : gb142 ≠ gb144));have n6_:=zm_ ((by rw [hg];exact Nat.ne_of_gt (blk_lt (g:=gb142) (o:=.cells #[.slice (some ad143) l0_0.length c0_0] 44 (0,0)) (by (with_reducible repeat first|refine zl_ ?_ _|refine zr_ ?_|refine zk_ ?_ _);exact BK142.out)) : gb144 ≠ gb142));clear BK142;clear HB;have BK142:=n0_;have HB:=n1_;have BK144:=n2_;have GW144:=n3_;have GE144:=n4_;have NB142_144:=n5_;have NB144_142:=n6_;clear n0_ n1_ n2_ n3_ n4_ n5_ n6_;clear hb hbox hg;have hnb23:=NB144_142.out;have hnc23:=NB142_144.out;have hcz24_0 : w22.cell? ⟨gb144,0,none⟩ = some (.int .i64 0):=(zc_ BK144.out 0).trans rfl;have hcz24_1 : w22.cell? ⟨gb144,1,none⟩ = some (.int .i64 0):=(zc_ BK144.out 1).trans rfl;have hcz24_2 : w22.cell? ⟨gb144,2,none⟩ = some (.string (⟨#[]⟩ : ByteArray)):=(zc_ BK144.out 2).trans rfl;have hcz24_3 : w22.cell? ⟨gb144,3,none⟩ = some (.slice none 0 0):=(zc_ BK144.out 3).trans rfl;have hfz24_0:=zf_ BK144.out 0;have hfz24_1:=zf_ BK144.out 1;have hfz24_2:=zf_ BK144.out 2;have hfz24_3:=zf_ BK144.out 3))
      go_ret
      exact ⟨by first|rfl|(simp [errW_none,errW_some] <;> rfl)|(simp [*,errW_none,errW_some] <;> rfl),by repeat (first|(with_reducible first|exact HB.out|apply za_|apply zn_|apply zd_|refine zs_ ?_ GE142.out|refine zs_ ?_ GE144.out)|exact HB.out)⟩
     ·rw [if_neg c19] at H
      have c19b0 : (((rd_T70 l0_0 a1).f0) == 3) = false:=beq_eq_false_iff_ne.mpr c19
      have c19b1 : (((rd_T70 l0_0 a1).f0) != 3) = true:=bne_iff_ne.mpr c19
      by_cases c25 : ((rd_T70 l0_0 a1).f0) = 11
      ·rw [if_pos c25] at H
       have c25b0 : (((rd_T70 l0_0 a1).f0) == 11) = true:=beq_iff_eq.mpr c25
       have c25b1 : (((rd_T70 l0_0 a1).f0) != 11) = false:=bne_eq_false_iff_eq.mpr c25
       clear c25
       by_cases c26 : 0 < (((rd_T70 l0_0 a1).f3).length : Int)
       ·rw [if_pos c26] at H
        have c26b0 : decide (0 < (((rd_T70 l0_0 a1).f3).length : Int)) = true:=decide_eq_true c26
        have c26b1 : decide (0 < ((rd_T70 l0_0 a1).f3).length) = true:=decide_eq_true (by omega)
        clear c26
        replace H:=Option.bind_eq_some_iff.mp H
        obtain ⟨t147,A270,H⟩:=H
        replace H : (if 1 + t147.size ≤ 9223372036854775807 then (some ((⟨#[33]⟩ : ByteArray) ++ t147)) else (none)) = some r:=H
        have A27:=zm_ A270
        clear A270
        by_cases c28 : 1 + t147.size ≤ 9223372036854775807
        ·rw [if_pos c28] at H
         have c28b0:=eq_true c28
         have c28b1 : decide (1 + t147.size ≤ 9223372036854775807) = true:=decide_eq_true c28
         try have c28b2 : (9223372036854775807 < 1 + t147.size) = False:=eq_false (Nat.not_lt.2 c28)
         obtain rfl:=Option.some.inj H
         go_enter Tryd.func43,Tryd.ntmps43
         try go_wp2_with (first|((with_reducible refine gate_dst (N:=2) rfl ?_);refine box_event ?hg (N:=2) ?hd (cs:=#[.slice A0_0 l0_0.length c0_0]) (t:=44) ?hr ?_;(case hd => rfl);(case hg => rfl);(case hr => first|(go_simp;done)|(go_simp;rfl));intro gb142 hg w29 hbox hb;have n0_:=zm_ (below_step (by repeat (first|(with_reducible first|exact HB.out|apply za_|apply zn_|apply zd_)|exact HB.out)) hb);have n1_:=zm_ (hbox);have n2_:=zm_ ((by rw [hg];exact (below_size (by repeat (first|(with_reducible first|exact HB.out|apply za_|apply zn_|apply zd_)|exact HB.out))) : w.heap.size ≤ gb142));have n3_:=zm_ ((by rw [hg];exact (below_size (by repeat (first|(with_reducible first|exact HB.out|apply za_|apply zn_|apply zd_)|exact HB.out))) : w.heap.size ≤ gb142));clear HB;have HB:=n0_;have BK142:=n1_;have GW142:=n2_;have GE142:=n3_;clear n0_ n1_ n2_ n3_;clear hb hbox hg;have hcz30_0 : w29.cell? ⟨gb142,0,none⟩ = some (.slice A0_0 l0_0.length c0_0):=(zc_ BK142.out 0).trans rfl;have hfz30_0:=zf_ BK142.out 0;have p143 : 0 ≤ (a1 : Int):=zo_;have q143 : a1 < (l0_0.length : Int):=zo_;obtain ⟨ad143,A143_3,c143_3,e143,hx143_0,hx143_1,hx143_2,hx143_3,hl143_3,hi143_3⟩:=at_T70 HR0_0.out a1 p143 q143;cases e143;replace hx143_0:=(HB.out.cell (zb_ w _ hx143_0)).trans hx143_0;replace hx143_1:=(HB.out.cell (zb_ w _ hx143_1)).trans hx143_1;replace hx143_2:=(HB.out.cell (zb_ w _ hx143_2)).trans hx143_2;replace hx143_3:=(HB.out.cell (zb_ w _ hx143_3)).trans hx143_3;have HR143_3:=zm_ hi143_3;have HC143_3:=zm_ hl143_3;clear hi143_3 hl143_3;replace p143:=eq_true p143;replace q143:=eq_true q143)|((with_reducible refine gate_dst (N:=5) rfl ?_);refine box_event ?hg (N:=5) ?hd (cs:=#[.int .i64 0,.int .i64 0,.string (⟨#[]⟩ : ByteArray),.slice none 0 0]) (t:=70) ?hr ?_;(case hd => rfl);(case hg => rfl);(case hr => first|(go_simp;done)|(go_simp;rfl));intro gb144 hg w31 hbox hb;have n0_:=zm_ (blk_below (g:=gb142) (o:=.cells #[.slice (some ad143) l0_0.length c0_0] 44 (0,0)) (by (with_reducible repeat first|refine zl_ ?_ _|refine zr_ ?_|refine zk_ ?_ _);exact BK142.out) hb);have n1_:=zm_ (below_step (by repeat (first|(with_reducible first|exact HB.out|apply za_|apply zn_|apply zd_|refine zs_ ?_ GE142.out)|exact HB.out)) hb);have n2_:=zm_ (hbox);have n3_:=zm_ ((by rw [hg];exact (below_size (by repeat (first|(with_reducible first|exact HB.out|apply za_|apply zn_|apply zd_|refine zs_ ?_ GE142.out)|exact HB.out))) : w.heap.size ≤ gb144));have n4_:=zm_ ((by rw [hg];exact (below_size (by repeat (first|(with_reducible first|exact HB.out|apply za_|apply zn_|apply zd_|refine zs_ ?_ GE142.out)|exact HB.out))) : w.heap.size ≤ gb144));have n5_:=zm_ ((by rw [hg];exact Nat.ne_of_lt (blk_lt (g:=gb142) (o:=.cells #[.slice (some ad143) l0_0.length c0_0] 44 (0,0)) (by (with_reducible repeat first|refine zl_ ?_ _|refine zr_ ?_|refine zk_ ?_ _);exact BK142.out)) : gb142 ≠ gb144));have n6_:=zm_ ((by rw [hg];exact Nat.ne_of_gt (blk_lt (g:=gb142) (o:=.cells #[.slice (some ad143) l0_0.length c0_0] 44 (0,0)) (by (with_reducible repeat first|refine zl_ ?_ _|refine zr_ ?_|refine zk_ ?_ _);exact BK142.out)) : gb144 ≠ gb142));clear BK142;clear HB;have BK142:=n0_;have HB:=n1_;have BK144:=n2_;have GW144:=n3_;have GE144:=n4_;have NB142_144:=n5_;have NB144_142:=n6_;clear n0_ n1_ n2_ n3_ n4_ n5_ n6_;clear hb hbox hg;have hnb32:=NB144_142.out;have hnc32:=NB142_144.out;have hcz33_0 : w31.cell? ⟨gb144,0,none⟩ = some (.int .i64 0):=(zc_ BK144.out 0).trans rfl;have hcz33_1 : w31.cell? ⟨gb144,1,none⟩ = some (.int .i64 0):=(zc_ BK144.out 1).trans rfl;have hcz33_2 : w31.cell? ⟨gb144,2,none⟩ = some (.string (⟨#[]⟩ : ByteArray)):=(zc_ BK144.out 2).trans rfl;have hcz33_3 : w31.cell? ⟨gb144,3,none⟩ = some (.slice none 0 0):=(zc_ BK144.out 3).trans rfl;have hfz33_0:=zf_ BK144.out 0;have hfz33_1:=zf_ BK144.out 1;have hfz33_2:=zf_ BK144.out 2;have hfz33_3:=zf_ BK144.out 3))
         have n0_ : Aside0 (((((w31.setCell ⟨gb144,0,none⟩ (.int .i64 ((rd_T70 l0_0 a1).f0))).setCell ⟨gb144,1,none⟩ (.int .i64 ((rd_T70 l0_0 a1).f1))).setCell ⟨gb144,2,none⟩ (.string ((rd_T70 l0_0 a1).f2))).setCell ⟨gb144,3,none⟩ (.slice A143_3 ((rd_T70 l0_0 a1).f3).length c143_3)).heap[gb142]? = some (.cells #[.slice (some ad143) l0_0.length c0_0] 44 (0,0))):=⟨by (with_reducible repeat first|refine zl_ ?_ _|refine zr_ ?_|refine zk_ ?_ _);refine blk_far ?_ NB142_144.out _;(with_reducible repeat first|refine zl_ ?_ _|refine zr_ ?_|refine zk_ ?_ _);refine blk_far ?_ NB142_144.out _;(with_reducible repeat first|refine zl_ ?_ _|refine zr_ ?_|refine zk_ ?_ _);refine blk_far ?_ NB142_144.out _;(with_reducible repeat first|refine zl_ ?_ _|refine zr_ ?_|refine zk_ ?_ _);refine blk_far ?_ NB142_144.out _;(with_reducible repeat first|refine zl_ ?_ _|refine zr_ ?_|refine zk_ ?_ _);exact BK142.out⟩
         have n1_ : Aside0 (((((w31.setCell ⟨gb144,0,none⟩ (.int .i64 ((rd_T70 l0_0 a1).f0))).setCell ⟨gb144,1,none⟩ (.int .i64 ((rd_T70 l0_0 a1).f1))).setCell ⟨gb144,2,none⟩ (.string ((rd_T70 l0_0 a1).f2))).setCell ⟨gb144,3,none⟩ (.slice A143_3 ((rd_T70 l0_0 a1).f3).length c143_3)).heap[gb144]? = some (.cells #[.int .i64 ((rd_T70 l0_0 a1).f0),.int .i64 ((rd_T70 l0_0 a1).f1),.string ((rd_T70 l0_0 a1).f2),.slice A143_3 ((rd_T70 l0_0 a1).f3).length c143_3] 70 (0,0))):=⟨by (with_reducible repeat first|refine zl_ ?_ _|refine zr_ ?_|refine zk_ ?_ _);refine blk_put (cs:=#[.int .i64 ((rd_T70 l0_0 a1).f0),.int .i64 ((rd_T70 l0_0 a1).f1),.string ((rd_T70 l0_0 a1).f2),.slice none 0 0]) ?_ 3 _ rfl;(with_reducible repeat first|refine zl_ ?_ _|refine zr_ ?_|refine zk_ ?_ _);refine blk_put (cs:=#[.int .i64 ((rd_T70 l0_0 a1).f0),.int .i64 ((rd_T70 l0_0 a1).f1),.string (⟨#[]⟩ : ByteArray),.slice none 0 0]) ?_ 2 _ rfl;(with_reducible repeat first|refine zl_ ?_ _|refine zr_ ?_|refine zk_ ?_ _);refine blk_put (cs:=#[.int .i64 ((rd_T70 l0_0 a1).f0),.int .i64 0,.string (⟨#[]⟩ : ByteArray),.slice none 0 0]) ?_ 1 _ rfl;(with_reducible repeat first|refine zl_ ?_ _|refine zr_ ?_|refine zk_ ?_ _);refine blk_put (cs:=#[.int .i64 0,.int .i64 0,.string (⟨#[]⟩ : ByteArray),.slice none 0 0]) ?_ 0 _ rfl;(with_reducible repeat first|refine zl_ ?_ _|refine zr_ ?_|refine zk_ ?_ _);exact BK144.out⟩
         have n2_ : Aside0 (Below w.heap.size w ((((w31.setCell ⟨gb144,0,none⟩ (.int .i64 ((rd_T70 l0_0 a1).f0))).setCell ⟨gb144,1,none⟩ (.int .i64 ((rd_T70 l0_0 a1).f1))).setCell ⟨gb144,2,none⟩ (.string ((rd_T70 l0_0 a1).f2))).setCell ⟨gb144,3,none⟩ (.slice A143_3 ((rd_T70 l0_0 a1).f3).length c143_3))):=⟨by repeat (first|(with_reducible first|exact HB.out|apply za_|apply zn_|apply zd_|refine zs_ ?_ GE142.out|refine zs_ ?_ GE144.out)|exact HB.out)⟩
         (try clear BK142)
         (try clear BK144)
         (try clear HB)
         generalize ((((w31.setCell ⟨gb144,0,none⟩ (.int .i64 ((rd_T70 l0_0 a1).f0))).setCell ⟨gb144,1,none⟩ (.int .i64 ((rd_T70 l0_0 a1).f1))).setCell ⟨gb144,2,none⟩ (.string ((rd_T70 l0_0 a1).f2))).setCell ⟨gb144,3,none⟩ (.slice A143_3 ((rd_T70 l0_0 a1).f3).length c143_3)) = w34 at n0_ n1_ n2_ ⊢
         have BK142:=n0_
         have BK144:=n1_
         have HB:=n2_
         clear n0_ n1_ n2_
         have n0_:=zm_ (zr_ BK142.out)
         have n1_:=zm_ (zr_ BK144.out)
         have n2_:=zm_ (zd_ HB.out)
         clear BK142
         clear BK144
         clear HB
         have BK142:=n0_
         have BK144:=n1_
         have HB:=n2_
         clear n0_ n1_ n2_
         have p146 : 0 ≤ (0 : Int):=(by omega)
         have q146 : 0 < (((rd_T70 l0_0 a1).f3).length : Int):=zo_
         obtain ⟨ad146,e146,hx146_0⟩:=Kd.at_int HR143_3.out 0 p146 q146
         have hw146_0:=hx146_0
         (try rw [show ((0 : Int)).toNat = 0 from rfl] at hw146_0)
         (try rw [show 0 * 1 = 0 from rfl] at hw146_0)
         (try rw [Addr.add_zero'] at hw146_0)
         cases e146
         have qi146 : (0 < ((rd_T70 l0_0 a1).f3).length) = True:=eq_true (by omega)
         (try rw [show ((0 : Int)).toNat = 0 from rfl] at hx146_0)
         (try rw [Addr.add_zero'] at hx146_0)
         replace hx146_0:=(HB.out.cell (zb_ w _ hx146_0)).trans hx146_0
         replace p146:=eq_true p146
         replace q146:=eq_true q146
         refine start_ (n:=8) (S:=fun w' => w'.cell? ⟨gb142,0,none⟩ = some (.slice (some ad143) l0_0.length c0_0) ∧ w'.cell? ⟨gb144,0,none⟩ = some (.int .i64 ((rd_T70 l0_0 a1).f0)) ∧ w'.cell? ⟨gb144,1,none⟩ = some (.int .i64 ((rd_T70 l0_0 a1).f1)) ∧ w'.cell? ⟨gb144,2,none⟩ = some (.string ((rd_T70 l0_0 a1).f2)) ∧ w'.cell? ⟨gb144,3,none⟩ = some (.slice (some ad146) ((rd_T70 l0_0 a1).f3).length c143_3) ∧ w'.cell? ad146 = some (.int .i64 (rd ((rd_T70 l0_0 a1).f3) 0))) (ds:=[]) #[false,false,false,false,false,false,false,false] (by kernel_rfl) rfl rfl ⟨(zc_ BK142.out 0).trans rfl,(zc_ BK144.out 0).trans rfl,(zc_ BK144.out 1).trans rfl,(zc_ BK144.out 2).trans rfl,(zc_ BK144.out 3).trans rfl,((HB.out.cell (zb_ w _ hw146_0)).trans hw146_0)⟩ (fun hHeld => ?_);refine with_tabW spec_l04Show.tab10 spec_l04Show.bits10 (fun HT_ HW_ => ?_)
         generalize w34.drew = w35 at BK142 BK144 HB hx146_0 hHeld ⊢
         refine pure_ (i:=1) (N:=some 28) (v:=?_) (a':=?_) #[false,true,false,false,false,false,false,false] rfl rfl (any_of HT_.out (by kernel_rfl)) (fun _ _ _ h => h) (Or.inl ⟨by rfl,?_⟩) ?_ ?_
         rotate_left
         ·intro w'
          go_simp
          with_reducible rfl
         rotate_left
         ·simp only [Act.put,List.setIfInBounds_toArray,List.set_cons_zero,List.set_cons_succ,i64_w,i32_w,IntKind.wrap_u8]
          rfl
         refine take_ (i:=0) (N:=some 27) (v:=?_) (a':=?_) #[true,true,false,false,false,false,false,false] rfl rfl (take_ofW HT_.out HW_.out (by kernel_rfl)) (fun _ _ _ h => h) (Or.inl ⟨by rfl,?_⟩) hHeld ?_ ?_
         rotate_left
         ·rintro w' ⟨s0,s1,s2,s3,s4,s5⟩
          go_simp
          with_reducible rfl
         rotate_left
         ·simp only [Act.put,List.setIfInBounds_toArray,List.set_cons_zero,List.set_cons_succ,i64_w,i32_w,IntKind.wrap_u8]
          rfl
         refine take_ (i:=2) (N:=some 29) (v:=?_) (a':=?_) #[true,true,true,false,false,false,false,false] rfl rfl (take_ofW HT_.out HW_.out (by kernel_rfl)) (fun _ _ _ h => h) (Or.inl ⟨by rfl,?_⟩) hHeld ?_ ?_
         rotate_left
         ·rintro w' ⟨s0,s1,s2,s3,s4,s5⟩
          go_simp
          with_reducible rfl
         rotate_left
         ·simp only [Act.put,List.setIfInBounds_toArray,List.set_cons_zero,List.set_cons_succ,i64_w,i32_w,IntKind.wrap_u8]
          rfl
         refine pure_ (i:=3) (N:=some 30) (v:=?_) (a':=?_) #[true,true,true,true,false,false,false,false] rfl rfl (any_of HT_.out (by kernel_rfl)) (fun _ _ _ h => h) (Or.inl ⟨by rfl,?_⟩) ?_ ?_
         rotate_left
         ·intro w'
          go_simp
          with_reducible rfl
         rotate_left
         ·simp only [Act.put,List.setIfInBounds_toArray,List.set_cons_zero,List.set_cons_succ,i64_w,i32_w,IntKind.wrap_u8]
          rfl
         refine take_ (i:=4) (N:=some 31) (v:=?_) (a':=?_) #[true,true,true,true,true,false,false,false] rfl rfl (take_ofW HT_.out HW_.out (by kernel_rfl)) (fun _ _ _ h => h) (Or.inl ⟨by rfl,?_⟩) hHeld ?_ ?_
         rotate_left
         ·rintro w' ⟨s0,s1,s2,s3,s4,s5⟩
          go_simp
          with_reducible rfl
         rotate_left
         ·simp only [Act.put,List.setIfInBounds_toArray,List.set_cons_zero,List.set_cons_succ,i64_w,i32_w,IntKind.wrap_u8]
          rfl
         refine one_ (i:=5) (N:=some 32) #[true,true,true,true,true,true,false,false] rfl rfl (one_of HT_.out (by kernel_rfl)) (by decide) (fun K hK => ?_)
         refine goes_ Tryd.func43 (by kernel_rfl) rfl #[.agg #[.slice (some ad143) l0_0.length c0_0],.int .i64 (rd ((rd_T70 l0_0 a1).f3) 0)] (by rfl) rfl rfl (by (try simp only [List.map_toArray,List.map_cons,List.map_nil]);first|done|rfl|(simp only [List.length_drop,List.length_take];rfl)) ?_
         with_reducible refine (ih k (by omega) _ _ l0_0 (rd ((rd_T70 l0_0 a1).f3) 0) t147 _ ?side1 ?side2 A27.out).mono ?_
         (case side1 => repeat (first|exact (Kd.C_below HR0_0.out HB.out)|(with_reducible refine Kd.C_alloc ?_ _)|(with_reducible refine Kd.C_drewN ?_ _)|(with_reducible refine Kd.C_drew ?_)))
         (case side2 => exact HC0_0.out)
         rintro e w36 ⟨rfl,hb⟩
         refine ⟨_,rfl,?_⟩
         have n0_:=zm_ (blk_below (g:=gb142) (o:=.cells #[.slice (some ad143) l0_0.length c0_0] 44 (0,0)) (by (with_reducible repeat first|refine zl_ ?_ _|refine zr_ ?_|refine zk_ ?_ _);exact BK142.out) hb)
         have n1_:=zm_ (blk_below (g:=gb144) (o:=.cells #[.int .i64 ((rd_T70 l0_0 a1).f0),.int .i64 ((rd_T70 l0_0 a1).f1),.string ((rd_T70 l0_0 a1).f2),.slice (some ad146) ((rd_T70 l0_0 a1).f3).length c143_3] 70 (0,0)) (by (with_reducible repeat first|refine zl_ ?_ _|refine zr_ ?_|refine zk_ ?_ _);exact BK144.out) hb)
         have n2_:=zm_ (below_step (by repeat (first|(with_reducible first|exact HB.out|apply za_|apply zn_|apply zd_|refine zs_ ?_ GE142.out|refine zs_ ?_ GE144.out)|exact HB.out)) hb)
         clear BK142
         clear BK144
         clear HB
         have BK142:=n0_
         have BK144:=n1_
         have HB:=n2_
         clear n0_ n1_ n2_
         (try clear hb)
         (try clear hb2)
         (try clear hk)
         (try clear hi)
         refine hK.out _ _ ⟨(zc_ BK142.out 0).trans rfl,(zc_ BK144.out 0).trans rfl,(zc_ BK144.out 1).trans rfl,(zc_ BK144.out 2).trans rfl,(zc_ BK144.out 3).trans rfl,((HB.out.cell (zb_ w _ hw146_0)).trans hw146_0)⟩ (fun hHeld => ?_)
         clear hK K
         refine norm_ (a':=?_) ?_ ?_
         rotate_left
         ·show Act.put _ (some 32) _ = _
          simp only [Act.put,List.setIfInBounds_toArray,List.set_cons_zero,List.set_cons_succ,i64_w,i32_w,IntKind.wrap_u8]
          rfl
         refine pure_ (i:=6) (N:=some 33) (v:=?_) (a':=?_) #[true,true,true,true,true,true,true,false] rfl rfl (any_of HT_.out (by kernel_rfl)) (fun _ _ _ h => h) (Or.inl ⟨by rfl,?_⟩) ?_ ?_
         rotate_left
         ·intro w'
          go_simp
          with_reducible rfl
         rotate_left
         ·simp only [Act.put,List.setIfInBounds_toArray,List.set_cons_zero,List.set_cons_succ,i64_w,i32_w,IntKind.wrap_u8]
          rfl
         refine pure_ (i:=7) (N:=some 4) (v:=?_) (a':=?_) #[true,true,true,true,true,true,true,true] rfl rfl (any_of HT_.out (by kernel_rfl)) (fun _ _ _ h => h) (Or.inl ⟨by rfl,?_⟩) ?_ ?_
         rotate_left
         ·intro w'
          go_simp
          with_reducible rfl
         rotate_left
         ·simp only [Act.put,List.setIfInBounds_toArray,List.set_cons_zero,List.set_cons_succ,i64_w,i32_w,IntKind.wrap_u8]
          rfl
         refine done_ (done_of HT_.out (by kernel_rfl)) ?_
         try go_wp2
         go_ret
         exact ⟨by first|rfl|(simp [errW_none,errW_some] <;> rfl)|(simp [*,errW_none,errW_some] <;> rfl),by repeat (first|(with_reducible first|exact HB.out|apply za_|apply zn_|apply zd_|refine zs_ ?_ GE142.out|refine zs_ ?_ GE144.out)|exact HB.out)⟩
        ·rw [if_neg c28] at H
         exact absurd H (by simp)
       ·rw [if_neg c26] at H
        exact absurd H (by simp)
      ·rw [if_neg c25] at H
       have c25b0 : (((rd_T70 l0_0 a1).f0) == 11) = false:=beq_eq_false_iff_ne.mpr c25
       have c25b1 : (((rd_T70 l0_0 a1).f0) != 11) = true:=bne_iff_ne.mpr c25
       obtain ⟨y148,hy148⟩ : ∃ y_ : List ByteArray,y_ = (([(⟨#[43]⟩ : ByteArray),(⟨#[45]⟩ : ByteArray),(⟨#[42]⟩ : ByteArray),(⟨#[47]⟩ : ByteArray),(⟨#[60]⟩ : ByteArray),(⟨#[61]⟩ : ByteArray),(⟨#[38]⟩ : ByteArray)] : List ByteArray)):=⟨_,rfl⟩
       replace H : (if 0 < (((rd_T70 l0_0 a1).f3).length : Int) then ((spec_l04Show.f k l0_0 (rd ((rd_T70 l0_0 a1).f3) 0)).bind fun t152 => (if 1 + t152.size ≤ 9223372036854775807 then (if ((⟨#[40]⟩ : ByteArray) ++ t152).size + 1 ≤ 9223372036854775807 then (if 0 ≤ (wrap64 (((rd_T70 l0_0 a1).f0) - 4)) then (if (wrap64 (((rd_T70 l0_0 a1).f0) - 4)) < (y148.length : Int) then (if (((⟨#[40]⟩ : ByteArray) ++ t152) ++ (⟨#[32]⟩ : ByteArray)).size + (rdOf ByteArray.empty y148 (wrap64 (((rd_T70 l0_0 a1).f0) - 4))).size ≤ 9223372036854775807 then (if ((((⟨#[40]⟩ : ByteArray) ++ t152) ++ (⟨#[32]⟩ : ByteArray)) ++ (rdOf ByteArray.empty y148 (wrap64 (((rd_T70 l0_0 a1).f0) - 4)))).size + 1 ≤ 9223372036854775807 then (if 1 < (((rd_T70 l0_0 a1).f3).length : Int) then ((spec_l04Show.f k l0_0 (rd ((rd_T70 l0_0 a1).f3) 1)).bind fun t155 => (if (((((⟨#[40]⟩ : ByteArray) ++ t152) ++ (⟨#[32]⟩ : ByteArray)) ++ (rdOf ByteArray.empty y148 (wrap64 (((rd_T70 l0_0 a1).f0) - 4)))) ++ (⟨#[32]⟩ : ByteArray)).size + t155.size ≤ 9223372036854775807 then (if ((((((⟨#[40]⟩ : ByteArray) ++ t152) ++ (⟨#[32]⟩ : ByteArray)) ++ (rdOf ByteArray.empty y148 (wrap64 (((rd_T70 l0_0 a1).f0) - 4)))) ++ (⟨#[32]⟩ : ByteArray)) ++ t155).size + 1 ≤ 9223372036854775807 then (some (((((((⟨#[40]⟩ : ByteArray) ++ t152) ++ (⟨#[32]⟩ : ByteArray)) ++ (rdOf ByteArray.empty y148 (wrap64 (((rd_T70 l0_0 a1).f0) - 4)))) ++ (⟨#[32]⟩ : ByteArray)) ++ t155) ++ (⟨#[41]⟩ : ByteArray))) else (none)) else (none))) else (none)) else (none)) else (none)) else (none)) else (none)) else (none)) else (none))) else (none)) = some r:=by first|(rw [hy148];with_reducible exact H)|(have H2_:=(Option.bind_some _ _).symm.trans H;rw [hy148];with_reducible exact H2_)|(have H2_:=(Option.bind_some _ _).symm.trans H;with_reducible exact H2_)|with_reducible exact H|(rw [hy148];exact H)|exact H
       have Ny148:=zm_ hy148
       clear hy148
       by_cases c37 : 0 < (((rd_T70 l0_0 a1).f3).length : Int)
       ·rw [if_pos c37] at H
        have c37b0 : decide (0 < (((rd_T70 l0_0 a1).f3).length : Int)) = true:=decide_eq_true c37
        have c37b1 : decide (0 < ((rd_T70 l0_0 a1).f3).length) = true:=decide_eq_true (by omega)
        clear c37
        replace H:=Option.bind_eq_some_iff.mp H
        obtain ⟨t152,A380,H⟩:=H
        replace H : (if 1 + t152.size ≤ 9223372036854775807 then (if ((⟨#[40]⟩ : ByteArray) ++ t152).size + 1 ≤ 9223372036854775807 then (if 0 ≤ (wrap64 (((rd_T70 l0_0 a1).f0) - 4)) then (if (wrap64 (((rd_T70 l0_0 a1).f0) - 4)) < (y148.length : Int) then (if (((⟨#[40]⟩ : ByteArray) ++ t152) ++ (⟨#[32]⟩ : ByteArray)).size + (rdOf ByteArray.empty y148 (wrap64 (((rd_T70 l0_0 a1).f0) - 4))).size ≤ 9223372036854775807 then (if ((((⟨#[40]⟩ : ByteArray) ++ t152) ++ (⟨#[32]⟩ : ByteArray)) ++ (rdOf ByteArray.empty y148 (wrap64 (((rd_T70 l0_0 a1).f0) - 4)))).size + 1 ≤ 9223372036854775807 then (if 1 < (((rd_T70 l0_0 a1).f3).length : Int) then ((spec_l04Show.f k l0_0 (rd ((rd_T70 l0_0 a1).f3) 1)).bind fun t155 => (if (((((⟨#[40]⟩ : ByteArray) ++ t152) ++ (⟨#[32]⟩ : ByteArray)) ++ (rdOf ByteArray.empty y148 (wrap64 (((rd_T70 l0_0 a1).f0) - 4)))) ++ (⟨#[32]⟩ : ByteArray)).size + t155.size ≤ 9223372036854775807 then (if ((((((⟨#[40]⟩ : ByteArray) ++ t152) ++ (⟨#[32]⟩ : ByteArray)) ++ (rdOf ByteArray.empty y148 (wrap64 (((rd_T70 l0_0 a1).f0) - 4)))) ++ (⟨#[32]⟩ : ByteArray)) ++ t155).size + 1 ≤ 9223372036854775807 then (some (((((((⟨#[40]⟩ : ByteArray) ++ t152) ++ (⟨#[32]⟩ : ByteArray)) ++ (rdOf ByteArray.empty y148 (wrap64 (((rd_T70 l0_0 a1).f0) - 4)))) ++ (⟨#[32]⟩ : ByteArray)) ++ t155) ++ (⟨#[41]⟩ : ByteArray))) else (none)) else (none))) else (none)) else (none)) else (none)) else (none)) else (none)) else (none)) else (none)) = some r:=H
        have A38:=zm_ A380
        clear A380
        by_cases c39 : 1 + t152.size ≤ 9223372036854775807
        ·rw [if_pos c39] at H
         have c39b0:=eq_true c39
         have c39b1 : decide (1 + t152.size ≤ 9223372036854775807) = true:=decide_eq_true c39
         try have c39b2 : (9223372036854775807 < 1 + t152.size) = False:=eq_false (Nat.not_lt.2 c39)
         by_cases c40 : ((⟨#[40]⟩ : ByteArray) ++ t152).size + 1 ≤ 9223372036854775807
         ·rw [if_pos c40] at H
          have c40b0:=eq_true c40
          have c40b1 : decide (((⟨#[40]⟩ : ByteArray) ++ t152).size + 1 ≤ 9223372036854775807) = true:=decide_eq_true c40
          try have c40b2 : (9223372036854775807 < ((⟨#[40]⟩ : ByteArray) ++ t152).size + 1) = False:=eq_false (Nat.not_lt.2 c40)
          try have c40b3 : (9223372036854775807 < 1 + t152.size + 1) = False:=eq_false (Nat.not_lt.2 (by have h_:=c40;simp only [ByteArray.size_append] at h_;exact h_))
          obtain ⟨ji41,hji41⟩ : ∃ j_ : Int,(wrap64 (((rd_T70 l0_0 a1).f0) - 4)) = j_:=⟨_,rfl⟩
          replace H : (if 0 ≤ (ji41) then (if (ji41) < (y148.length : Int) then (if (((⟨#[40]⟩ : ByteArray) ++ t152) ++ (⟨#[32]⟩ : ByteArray)).size + (rdOf ByteArray.empty y148 (ji41)).size ≤ 9223372036854775807 then (if ((((⟨#[40]⟩ : ByteArray) ++ t152) ++ (⟨#[32]⟩ : ByteArray)) ++ (rdOf ByteArray.empty y148 (ji41))).size + 1 ≤ 9223372036854775807 then (if 1 < (((rd_T70 l0_0 a1).f3).length : Int) then ((spec_l04Show.f k l0_0 (rd ((rd_T70 l0_0 a1).f3) 1)).bind fun t155 => (if (((((⟨#[40]⟩ : ByteArray) ++ t152) ++ (⟨#[32]⟩ : ByteArray)) ++ (rdOf ByteArray.empty y148 (ji41))) ++ (⟨#[32]⟩ : ByteArray)).size + t155.size ≤ 9223372036854775807 then (if ((((((⟨#[40]⟩ : ByteArray) ++ t152) ++ (⟨#[32]⟩ : ByteArray)) ++ (rdOf ByteArray.empty y148 (ji41))) ++ (⟨#[32]⟩ : ByteArray)) ++ t155).size + 1 ≤ 9223372036854775807 then (some (((((((⟨#[40]⟩ : ByteArray) ++ t152) ++ (⟨#[32]⟩ : ByteArray)) ++ (rdOf ByteArray.empty y148 (ji41))) ++ (⟨#[32]⟩ : ByteArray)) ++ t155) ++ (⟨#[41]⟩ : ByteArray))) else (none)) else (none))) else (none)) else (none)) else (none)) else (none)) else (none)) = some r:=by first|(rw [hji41] at H;exact H)|(simp only [hji41] at H ⊢;exact H)
          (try rw [hji41] at A38)
          have hji41w : (IntKind.i64.wrap (((rd_T70 l0_0 a1).f0) - 4)) = ji41:=(i64_w _).trans hji41
          by_cases c42 : 0 ≤ (ji41)
          ·rw [if_pos c42] at H
           have c42b0 : decide (0 ≤ (ji41)) = true:=decide_eq_true c42
           clear c42
           by_cases c43 : (ji41) < (y148.length : Int)
           ·rw [if_pos c43] at H
            have c43b0 : decide ((ji41) < (y148.length : Int)) = true:=decide_eq_true c43
            clear c43
            by_cases c44 : (((⟨#[40]⟩ : ByteArray) ++ t152) ++ (⟨#[32]⟩ : ByteArray)).size + (rdOf ByteArray.empty y148 (ji41)).size ≤ 9223372036854775807
            ·rw [if_pos c44] at H
             have c44b0:=eq_true c44
             have c44b1 : decide ((((⟨#[40]⟩ : ByteArray) ++ t152) ++ (⟨#[32]⟩ : ByteArray)).size + (rdOf ByteArray.empty y148 (ji41)).size ≤ 9223372036854775807) = true:=decide_eq_true c44
             try have c44b2 : (9223372036854775807 < (((⟨#[40]⟩ : ByteArray) ++ t152) ++ (⟨#[32]⟩ : ByteArray)).size + (rdOf ByteArray.empty y148 (ji41)).size) = False:=eq_false (Nat.not_lt.2 c44)
             try have c44b3 : (9223372036854775807 < (1 + t152.size) + 1 + (rdOf ByteArray.empty y148 (ji41)).size) = False:=eq_false (Nat.not_lt.2 (by have h_:=c44;simp only [ByteArray.size_append] at h_;exact h_))
             by_cases c45 : ((((⟨#[40]⟩ : ByteArray) ++ t152) ++ (⟨#[32]⟩ : ByteArray)) ++ (rdOf ByteArray.empty y148 (ji41))).size + 1 ≤ 9223372036854775807
             ·rw [if_pos c45] at H
              have c45b0:=eq_true c45
              have c45b1 : decide (((((⟨#[40]⟩ : ByteArray) ++ t152) ++ (⟨#[32]⟩ : ByteArray)) ++ (rdOf ByteArray.empty y148 (ji41))).size + 1 ≤ 9223372036854775807) = true:=decide_eq_true c45
              try have c45b2 : (9223372036854775807 < ((((⟨#[40]⟩ : ByteArray) ++ t152) ++ (⟨#[32]⟩ : ByteArray)) ++ (rdOf ByteArray.empty y148 (ji41))).size + 1) = False:=eq_false (Nat.not_lt.2 c45)
              try have c45b3 : (9223372036854775807 < ((1 + t152.size) + 1) + (rdOf ByteArray.empty y148 (ji41)).size + 1) = False:=eq_false (Nat.not_lt.2 (by have h_:=c45;simp only [ByteArray.size_append] at h_;exact h_))
              by_cases c46 : 1 < (((rd_T70 l0_0 a1).f3).length : Int)
              ·rw [if_pos c46] at H
               have c46b0 : decide (1 < (((rd_T70 l0_0 a1).f3).length : Int)) = true:=decide_eq_true c46
               have c46b1 : decide (1 < ((rd_T70 l0_0 a1).f3).length) = true:=decide_eq_true (by omega)
               clear c46
               replace H:=Option.bind_eq_some_iff.mp H
               obtain ⟨t155,A470,H⟩:=H
               replace H : (if (((((⟨#[40]⟩ : ByteArray) ++ t152) ++ (⟨#[32]⟩ : ByteArray)) ++ (rdOf ByteArray.empty y148 (ji41))) ++ (⟨#[32]⟩ : ByteArray)).size + t155.size ≤ 9223372036854775807 then (if ((((((⟨#[40]⟩ : ByteArray) ++ t152) ++ (⟨#[32]⟩ : ByteArray)) ++ (rdOf ByteArray.empty y148 (ji41))) ++ (⟨#[32]⟩ : ByteArray)) ++ t155).size + 1 ≤ 9223372036854775807 then (some (((((((⟨#[40]⟩ : ByteArray) ++ t152) ++ (⟨#[32]⟩ : ByteArray)) ++ (rdOf ByteArray.empty y148 (ji41))) ++ (⟨#[32]⟩ : ByteArray)) ++ t155) ++ (⟨#[41]⟩ : ByteArray))) else (none)) else (none)) = some r:=H
               have A47:=zm_ A470
               clear A470
               by_cases c48 : (((((⟨#[40]⟩ : ByteArray) ++ t152) ++ (⟨#[32]⟩ : ByteArray)) ++ (rdOf ByteArray.empty y148 (ji41))) ++ (⟨#[32]⟩ : ByteArray)).size + t155.size ≤ 9223372036854775807
               ·rw [if_pos c48] at H
                have c48b0:=eq_true c48
                have c48b1 : decide ((((((⟨#[40]⟩ : ByteArray) ++ t152) ++ (⟨#[32]⟩ : ByteArray)) ++ (rdOf ByteArray.empty y148 (ji41))) ++ (⟨#[32]⟩ : ByteArray)).size + t155.size ≤ 9223372036854775807) = true:=decide_eq_true c48
                try have c48b2 : (9223372036854775807 < (((((⟨#[40]⟩ : ByteArray) ++ t152) ++ (⟨#[32]⟩ : ByteArray)) ++ (rdOf ByteArray.empty y148 (ji41))) ++ (⟨#[32]⟩ : ByteArray)).size + t155.size) = False:=eq_false (Nat.not_lt.2 c48)
                try have c48b3 : (9223372036854775807 < (((1 + t152.size) + 1) + (rdOf ByteArray.empty y148 (ji41)).size) + 1 + t155.size) = False:=eq_false (Nat.not_lt.2 (by have h_:=c48;simp only [ByteArray.size_append] at h_;exact h_))
                by_cases c49 : ((((((⟨#[40]⟩ : ByteArray) ++ t152) ++ (⟨#[32]⟩ : ByteArray)) ++ (rdOf ByteArray.empty y148 (ji41))) ++ (⟨#[32]⟩ : ByteArray)) ++ t155).size + 1 ≤ 9223372036854775807
                ·rw [if_pos c49] at H
                 have c49b0:=eq_true c49
                 have c49b1 : decide (((((((⟨#[40]⟩ : ByteArray) ++ t152) ++ (⟨#[32]⟩ : ByteArray)) ++ (rdOf ByteArray.empty y148 (ji41))) ++ (⟨#[32]⟩ : ByteArray)) ++ t155).size + 1 ≤ 9223372036854775807) = true:=decide_eq_true c49
                 try have c49b2 : (9223372036854775807 < ((((((⟨#[40]⟩ : ByteArray) ++ t152) ++ (⟨#[32]⟩ : ByteArray)) ++ (rdOf ByteArray.empty y148 (ji41))) ++ (⟨#[32]⟩ : ByteArray)) ++ t155).size + 1) = False:=eq_false (Nat.not_lt.2 c49)
                 try have c49b3 : (9223372036854775807 < ((((1 + t152.size) + 1) + (rdOf ByteArray.empty y148 (ji41)).size) + 1) + t155.size + 1) = False:=eq_false (Nat.not_lt.2 (by have h_:=c49;simp only [ByteArray.size_append] at h_;exact h_))
                 obtain rfl:=Option.some.inj H
                 go_enter Tryd.func43,Tryd.ntmps43
                 try go_wp2_with (first|((with_reducible refine gate_dst (N:=2) rfl ?_);refine box_event ?hg (N:=2) ?hd (cs:=#[.slice A0_0 l0_0.length c0_0]) (t:=44) ?hr ?_;(case hd => rfl);(case hg => rfl);(case hr => first|(go_simp;done)|(go_simp;rfl));intro gb142 hg w50 hbox hb;have n0_:=zm_ (below_step (by repeat (first|(with_reducible first|exact HB.out|apply za_|apply zn_|apply zd_)|exact HB.out)) hb);have n1_:=zm_ (hbox);have n2_:=zm_ ((by rw [hg];exact (below_size (by repeat (first|(with_reducible first|exact HB.out|apply za_|apply zn_|apply zd_)|exact HB.out))) : w.heap.size ≤ gb142));have n3_:=zm_ ((by rw [hg];exact (below_size (by repeat (first|(with_reducible first|exact HB.out|apply za_|apply zn_|apply zd_)|exact HB.out))) : w.heap.size ≤ gb142));clear HB;have HB:=n0_;have BK142:=n1_;have GW142:=n2_;have GE142:=n3_;clear n0_ n1_ n2_ n3_;clear hb hbox hg;have hcz51_0 : w50.cell? ⟨gb142,0,none⟩ = some (.slice A0_0 l0_0.length c0_0):=(zc_ BK142.out 0).trans rfl;have hfz51_0:=zf_ BK142.out 0;have p143 : 0 ≤ (a1 : Int):=zo_;have q143 : a1 < (l0_0.length : Int):=zo_;obtain ⟨ad143,A143_3,c143_3,e143,hx143_0,hx143_1,hx143_2,hx143_3,hl143_3,hi143_3⟩:=at_T70 HR0_0.out a1 p143 q143;cases e143;replace hx143_0:=(HB.out.cell (zb_ w _ hx143_0)).trans hx143_0;replace hx143_1:=(HB.out.cell (zb_ w _ hx143_1)).trans hx143_1;replace hx143_2:=(HB.out.cell (zb_ w _ hx143_2)).trans hx143_2;replace hx143_3:=(HB.out.cell (zb_ w _ hx143_3)).trans hx143_3;have HR143_3:=zm_ hi143_3;have HC143_3:=zm_ hl143_3;clear hi143_3 hl143_3;replace p143:=eq_true p143;replace q143:=eq_true q143)|((with_reducible refine gate_dst (N:=5) rfl ?_);refine box_event ?hg (N:=5) ?hd (cs:=#[.int .i64 0,.int .i64 0,.string (⟨#[]⟩ : ByteArray),.slice none 0 0]) (t:=70) ?hr ?_;(case hd => rfl);(case hg => rfl);(case hr => first|(go_simp;done)|(go_simp;rfl));intro gb144 hg w52 hbox hb;have n0_:=zm_ (blk_below (g:=gb142) (o:=.cells #[.slice (some ad143) l0_0.length c0_0] 44 (0,0)) (by (with_reducible repeat first|refine zl_ ?_ _|refine zr_ ?_|refine zk_ ?_ _);exact BK142.out) hb);have n1_:=zm_ (below_step (by repeat (first|(with_reducible first|exact HB.out|apply za_|apply zn_|apply zd_|refine zs_ ?_ GE142.out)|exact HB.out)) hb);have n2_:=zm_ (hbox);have n3_:=zm_ ((by rw [hg];exact (below_size (by repeat (first|(with_reducible first|exact HB.out|apply za_|apply zn_|apply zd_|refine zs_ ?_ GE142.out)|exact HB.out))) : w.heap.size ≤ gb144));have n4_:=zm_ ((by rw [hg];exact (below_size (by repeat (first|(with_reducible first|exact HB.out|apply za_|apply zn_|apply zd_|refine zs_ ?_ GE142.out)|exact HB.out))) : w.heap.size ≤ gb144));have n5_:=zm_ ((by rw [hg];exact Nat.ne_of_lt (blk_lt (g:=gb142) (o:=.cells #[.slice (some ad143) l0_0.length c0_0] 44 (0,0)) (by (with_reducible repeat first|refine zl_ ?_ _|refine zr_ ?_|refine zk_ ?_ _);exact BK142.out)) : gb142 ≠ gb144));have n6_:=zm_ ((by rw [hg];exact Nat.ne_of_gt (blk_lt (g:=gb142) (o:=.cells #[.slice (some ad143) l0_0.length c0_0] 44 (0,0)) (by (with_reducible repeat first|refine zl_ ?_ _|refine zr_ ?_|refine zk_ ?_ _);exact BK142.out)) : gb144 ≠ gb142));clear BK142;clear HB;have BK142:=n0_;have HB:=n1_;have BK144:=n2_;have GW144:=n3_;have GE144:=n4_;have NB142_144:=n5_;have NB144_142:=n6_;clear n0_ n1_ n2_ n3_ n4_ n5_ n6_;clear hb hbox hg;have hnb53:=NB144_142.out;have hnc53:=NB142_144.out;have hcz54_0 : w52.cell? ⟨gb144,0,none⟩ = some (.int .i64 0):=(zc_ BK144.out 0).trans rfl;have hcz54_1 : w52.cell? ⟨gb144,1,none⟩ = some (.int .i64 0):=(zc_ BK144.out 1).trans rfl;have hcz54_2 : w52.cell? ⟨gb144,2,none⟩ = some (.string (⟨#[]⟩ : ByteArray)):=(zc_ BK144.out 2).trans rfl;have hcz54_3 : w52.cell? ⟨gb144,3,none⟩ = some (.slice none 0 0):=(zc_ BK144.out 3).trans rfl;have hfz54_0:=zf_ BK144.out 0;have hfz54_1:=zf_ BK144.out 1;have hfz54_2:=zf_ BK144.out 2;have hfz54_3:=zf_ BK144.out 3)|((with_reducible refine gate_dst (N:=34) rfl ?_);refine Kd.R_lit Kd.string _ 9 ?hg (N:=34) ?hd (xs:=([(⟨#[43]⟩ : ByteArray),(⟨#[45]⟩ : ByteArray),(⟨#[42]⟩ : ByteArray),(⟨#[47]⟩ : ByteArray),(⟨#[60]⟩ : ByteArray),(⟨#[61]⟩ : ByteArray),(⟨#[38]⟩ : ByteArray)] : List ByteArray)) (inner:=[.string (⟨#[43]⟩ : ByteArray),.string (⟨#[45]⟩ : ByteArray),.string (⟨#[42]⟩ : ByteArray),.string (⟨#[47]⟩ : ByteArray),.string (⟨#[60]⟩ : ByteArray),.string (⟨#[61]⟩ : ByteArray),.string (⟨#[38]⟩ : ByteArray)]) (ok:=fun _ => True) (okp:=fun _ => True) ?hr ?hp (fun _ hk => hk) trivial (Below.refl _ _) (Nat.le_refl _) (by simp) ?_;(case hd => rfl);(case hg => rfl);(case hr => first|(go_simp;done)|(go_simp;rfl));(case hp => exact (Reps.one (show Kd.M Kd.string _ _ _ (⟨#[43]⟩ : ByteArray) [.string (⟨#[43]⟩ : ByteArray)] from rfl) (Reps.one (show Kd.M Kd.string _ _ _ (⟨#[45]⟩ : ByteArray) [.string (⟨#[45]⟩ : ByteArray)] from rfl) (Reps.one (show Kd.M Kd.string _ _ _ (⟨#[42]⟩ : ByteArray) [.string (⟨#[42]⟩ : ByteArray)] from rfl) (Reps.one (show Kd.M Kd.string _ _ _ (⟨#[47]⟩ : ByteArray) [.string (⟨#[47]⟩ : ByteArray)] from rfl) (Reps.one (show Kd.M Kd.string _ _ _ (⟨#[60]⟩ : ByteArray) [.string (⟨#[60]⟩ : ByteArray)] from rfl) (Reps.one (show Kd.M Kd.string _ _ _ (⟨#[61]⟩ : ByteArray) [.string (⟨#[61]⟩ : ByteArray)] from rfl) (Reps.one (show Kd.M Kd.string _ _ _ (⟨#[38]⟩ : ByteArray) [.string (⟨#[38]⟩ : ByteArray)] from rfl) (Reps.none _ _)))))))));intro v149 w55 ho56 hb hg_ hnew_;clear hg_ hnew_;(first|rw [← Ny148.out] at ho56|(simp only [Int.reduceToNat] at ho56;rw [← Ny148.out] at ho56));have n0_:=zm_ (Kd.R_lower ho56 (below_size (by repeat (first|(with_reducible first|exact HB.out|apply za_|apply zn_|apply zd_|refine zs_ ?_ GE142.out|refine zs_ ?_ GE144.out)|exact HB.out))));have n1_:=zm_ (blk_below (g:=gb142) (o:=.cells #[.slice (some ad143) l0_0.length c0_0] 44 (0,0)) (by (with_reducible repeat first|refine zl_ ?_ _|refine zr_ ?_|refine zk_ ?_ _);refine blk_far ?_ NB142_144.out _;(with_reducible repeat first|refine zl_ ?_ _|refine zr_ ?_|refine zk_ ?_ _);refine blk_far ?_ NB142_144.out _;(with_reducible repeat first|refine zl_ ?_ _|refine zr_ ?_|refine zk_ ?_ _);refine blk_far ?_ NB142_144.out _;(with_reducible repeat first|refine zl_ ?_ _|refine zr_ ?_|refine zk_ ?_ _);refine blk_far ?_ NB142_144.out _;(with_reducible repeat first|refine zl_ ?_ _|refine zr_ ?_|refine zk_ ?_ _);exact BK142.out) hb);have n2_:=zm_ (blk_below (g:=gb144) (o:=.cells #[.int .i64 ((rd_T70 l0_0 a1).f0),.int .i64 ((rd_T70 l0_0 a1).f1),.string ((rd_T70 l0_0 a1).f2),.slice A143_3 ((rd_T70 l0_0 a1).f3).length c143_3] 70 (0,0)) (by (with_reducible repeat first|refine zl_ ?_ _|refine zr_ ?_|refine zk_ ?_ _);refine blk_put (cs:=#[.int .i64 ((rd_T70 l0_0 a1).f0),.int .i64 ((rd_T70 l0_0 a1).f1),.string ((rd_T70 l0_0 a1).f2),.slice none 0 0]) ?_ 3 _ rfl;(with_reducible repeat first|refine zl_ ?_ _|refine zr_ ?_|refine zk_ ?_ _);refine blk_put (cs:=#[.int .i64 ((rd_T70 l0_0 a1).f0),.int .i64 ((rd_T70 l0_0 a1).f1),.string (⟨#[]⟩ : ByteArray),.slice none 0 0]) ?_ 2 _ rfl;(with_reducible repeat first|refine zl_ ?_ _|refine zr_ ?_|refine zk_ ?_ _);refine blk_put (cs:=#[.int .i64 ((rd_T70 l0_0 a1).f0),.int .i64 0,.string (⟨#[]⟩ : ByteArray),.slice none 0 0]) ?_ 1 _ rfl;(with_reducible repeat first|refine zl_ ?_ _|refine zr_ ?_|refine zk_ ?_ _);refine blk_put (cs:=#[.int .i64 0,.int .i64 0,.string (⟨#[]⟩ : ByteArray),.slice none 0 0]) ?_ 0 _ rfl;(with_reducible repeat first|refine zl_ ?_ _|refine zr_ ?_|refine zk_ ?_ _);exact BK144.out) hb);have n3_:=zm_ (below_step (by repeat (first|(with_reducible first|exact HB.out|apply za_|apply zn_|apply zd_|refine zs_ ?_ GE142.out|refine zs_ ?_ GE144.out)|exact HB.out)) hb);clear BK142;clear BK144;clear HB;have HO150:=n0_;have BK142:=n1_;have BK144:=n2_;have HB:=n3_;clear n0_ n1_ n2_ n3_;clear hb ho56))
                 have n0_:=zm_ (Kd.R_drew HO150.out)
                 have n1_:=zm_ (zr_ BK142.out)
                 have n2_:=zm_ (zr_ BK144.out)
                 have n3_:=zm_ (zd_ HB.out)
                 clear HO150
                 clear BK142
                 clear BK144
                 clear HB
                 have HO150:=n0_
                 have BK142:=n1_
                 have BK144:=n2_
                 have HB:=n3_
                 clear n0_ n1_ n2_ n3_
                 have p151 : 0 ≤ (0 : Int):=(by omega)
                 have q151 : 0 < (((rd_T70 l0_0 a1).f3).length : Int):=zo_
                 obtain ⟨ad151,e151,hx151_0⟩:=Kd.at_int HR143_3.out 0 p151 q151
                 have hw151_0:=hx151_0
                 (try rw [show ((0 : Int)).toNat = 0 from rfl] at hw151_0)
                 (try rw [show 0 * 1 = 0 from rfl] at hw151_0)
                 (try rw [Addr.add_zero'] at hw151_0)
                 cases e151
                 have qi151 : (0 < ((rd_T70 l0_0 a1).f3).length) = True:=eq_true (by omega)
                 (try rw [show ((0 : Int)).toNat = 0 from rfl] at hx151_0)
                 (try rw [Addr.add_zero'] at hx151_0)
                 replace hx151_0:=(HB.out.cell (zb_ w _ hx151_0)).trans hx151_0
                 replace p151:=eq_true p151
                 replace q151:=eq_true q151
                 obtain ⟨Ao58,co58,eo58⟩:=Kd.R_slice HO150.out
                 (first|subst eo58|(injection eo58 with f1_ f2_ f3_;have f4_:=f1_.symm;have f5_:=f3_.symm;clear f1_ f2_ f3_;subst f4_;subst f5_))
                 have p153 : 0 ≤ ((ji41) : Int):=zo_
                 have q153 : (ji41) < (y148.length : Int):=zo_
                 obtain ⟨ad153,e153,hx153_0⟩:=Kd.at_string (Kd.R_reads' HO150.out).2.2 (ji41) p153 q153
                 cases e153
                 replace p153:=eq_true p153
                 replace q153:=eq_true q153
                 have p154 : 0 ≤ (1 : Int):=(by omega)
                 have q154 : 1 < (((rd_T70 l0_0 a1).f3).length : Int):=zo_
                 obtain ⟨ad154,e154,hx154_0⟩:=Kd.at_int HR143_3.out 1 p154 q154
                 have hw154_0:=hx154_0
                 (try rw [show ((1 : Int)).toNat = 1 from rfl] at hw154_0)
                 (try rw [show 1 * 1 = 1 from rfl] at hw154_0)
                 (try simp only [Nat.reduceMul,Nat.reduceEqDiff,Go.Addr.add,↓reduceIte] at hw154_0)
                 obtain rfl : ad151 = ad154:=(by injection e154)
                 (try simp only [show (1 : Int).toNat = 1 from rfl,Nat.reduceMul,Nat.reduceEqDiff,Go.Addr.add,↓reduceIte] at hx154_0)
                 have qi154 : (1 < ((rd_T70 l0_0 a1).f3).length) = True:=eq_true (by omega)
                 (try rw [show ((1 : Int)).toNat = 1 from rfl] at hx154_0)
                 replace hx154_0:=(HB.out.cell (zb_ w _ hx154_0)).trans hx154_0
                 replace p154:=eq_true p154
                 replace q154:=eq_true q154
                 refine start_ (n:=25) (S:=fun w' => w'.cell? ⟨gb142,0,none⟩ = some (.slice (some ad143) l0_0.length c0_0) ∧ w'.cell? ⟨gb144,0,none⟩ = some (.int .i64 ((rd_T70 l0_0 a1).f0)) ∧ w'.cell? ⟨gb144,1,none⟩ = some (.int .i64 ((rd_T70 l0_0 a1).f1)) ∧ w'.cell? ⟨gb144,2,none⟩ = some (.string ((rd_T70 l0_0 a1).f2)) ∧ w'.cell? ⟨gb144,3,none⟩ = some (.slice (some ad151) ((rd_T70 l0_0 a1).f3).length c143_3) ∧ w'.cell? ad151 = some (.int .i64 (rd ((rd_T70 l0_0 a1).f3) 0)) ∧ w'.cell? (ad153.add ((ji41)).toNat) = some (.string (rdOf ByteArray.empty y148 (ji41))) ∧ w'.cell? ⟨ad151.block,ad151.off + 1,none⟩ = some (.int .i64 (rd ((rd_T70 l0_0 a1).f3) 1))) (ds:=[]) #[false,false,false,false,false,false,false,false,false,false,false,false,false,false,false,false,false,false,false,false,false,false,false,false,false] (by kernel_rfl) rfl rfl ⟨(zc_ BK142.out 0).trans rfl,(zc_ BK144.out 0).trans rfl,(zc_ BK144.out 1).trans rfl,(zc_ BK144.out 2).trans rfl,(zc_ BK144.out 3).trans rfl,((HB.out.cell (zb_ w _ hw151_0)).trans hw151_0),hx153_0,((HB.out.cell (zb_ w _ hw154_0)).trans hw154_0)⟩ (fun hHeld => ?_);refine with_tabW spec_l04Show.tab12 spec_l04Show.bits12 (fun HT_ HW_ => ?_)
                 generalize w55.drew = w57 at HO150 BK142 BK144 HB hx151_0 hx153_0 hx154_0 hHeld ⊢
                 refine pure_ (i:=1) (N:=some 36) (v:=?_) (a':=?_) #[false,true,false,false,false,false,false,false,false,false,false,false,false,false,false,false,false,false,false,false,false,false,false,false,false] rfl rfl (any_of HT_.out (by kernel_rfl)) (fun _ _ _ h => h) (Or.inl ⟨by rfl,?_⟩) ?_ ?_
                 rotate_left
                 ·intro w'
                  go_simp
                  with_reducible rfl
                 rotate_left
                 ·simp only [Act.put,List.setIfInBounds_toArray,List.set_cons_zero,List.set_cons_succ,i64_w,i32_w,IntKind.wrap_u8]
                  rfl
                 refine pure_ (i:=8) (N:=some 43) (v:=?_) (a':=?_) #[false,true,false,false,false,false,false,false,true,false,false,false,false,false,false,false,false,false,false,false,false,false,false,false,false] rfl rfl (any_of HT_.out (by kernel_rfl)) (fun _ _ _ h => h) (Or.inl ⟨by rfl,?_⟩) ?_ ?_
                 rotate_left
                 ·intro w'
                  go_simp
                  with_reducible rfl
                 rotate_left
                 ·simp only [Act.put,List.setIfInBounds_toArray,List.set_cons_zero,List.set_cons_succ,i64_w,i32_w,IntKind.wrap_u8]
                  rfl
                 refine pure_ (i:=9) (N:=some 44) (v:=?_) (a':=?_) #[false,true,false,false,false,false,false,false,true,true,false,false,false,false,false,false,false,false,false,false,false,false,false,false,false] rfl rfl (any_of HT_.out (by kernel_rfl)) (fun _ _ _ h => h) (Or.inl ⟨by rfl,?_⟩) ?_ ?_
                 rotate_left
                 ·intro w'
                  go_simp
                  with_reducible rfl
                 rotate_left
                 ·simp only [Act.put,List.setIfInBounds_toArray,List.set_cons_zero,List.set_cons_succ,i64_w,i32_w,IntKind.wrap_u8]
                  rfl
                 refine pure_ (i:=17) (N:=some 52) (v:=?_) (a':=?_) #[false,true,false,false,false,false,false,false,true,true,false,false,false,false,false,false,false,true,false,false,false,false,false,false,false] rfl rfl (any_of HT_.out (by kernel_rfl)) (fun _ _ _ h => h) (Or.inl ⟨by rfl,?_⟩) ?_ ?_
                 rotate_left
                 ·intro w'
                  go_simp
                  with_reducible rfl
                 rotate_left
                 ·simp only [Act.put,List.setIfInBounds_toArray,List.set_cons_zero,List.set_cons_succ,i64_w,i32_w,IntKind.wrap_u8]
                  rfl
                 refine take_ (i:=0) (N:=some 35) (v:=?_) (a':=?_) #[true,true,false,false,false,false,false,false,true,true,false,false,false,false,false,false,false,true,false,false,false,false,false,false,false] rfl rfl (take_ofW HT_.out HW_.out (by kernel_rfl)) (fun _ _ _ h => h) (Or.inl ⟨by rfl,?_⟩) hHeld ?_ ?_
                 rotate_left
                 ·rintro w' ⟨s0,s1,s2,s3,s4,s5,s6,s7⟩
                  go_simp
                  with_reducible rfl
                 rotate_left
                 ·simp only [Act.put,List.setIfInBounds_toArray,List.set_cons_zero,List.set_cons_succ,i64_w,i32_w,IntKind.wrap_u8]
                  rfl
                 refine take_ (i:=2) (N:=some 37) (v:=?_) (a':=?_) #[true,true,true,false,false,false,false,false,true,true,false,false,false,false,false,false,false,true,false,false,false,false,false,false,false] rfl rfl (take_ofW HT_.out HW_.out (by kernel_rfl)) (fun _ _ _ h => h) (Or.inl ⟨by rfl,?_⟩) hHeld ?_ ?_
                 rotate_left
                 ·rintro w' ⟨s0,s1,s2,s3,s4,s5,s6,s7⟩
                  go_simp
                  with_reducible rfl
                 rotate_left
                 ·simp only [Act.put,List.setIfInBounds_toArray,List.set_cons_zero,List.set_cons_succ,i64_w,i32_w,IntKind.wrap_u8]
                  rfl
                 refine pure_ (i:=3) (N:=some 38) (v:=?_) (a':=?_) #[true,true,true,true,false,false,false,false,true,true,false,false,false,false,false,false,false,true,false,false,false,false,false,false,false] rfl rfl (any_of HT_.out (by kernel_rfl)) (fun _ _ _ h => h) (Or.inl ⟨by rfl,?_⟩) ?_ ?_
                 rotate_left
                 ·intro w'
                  go_simp
                  with_reducible rfl
                 rotate_left
                 ·simp only [Act.put,List.setIfInBounds_toArray,List.set_cons_zero,List.set_cons_succ,i64_w,i32_w,IntKind.wrap_u8]
                  rfl
                 refine take_ (i:=4) (N:=some 39) (v:=?_) (a':=?_) #[true,true,true,true,true,false,false,false,true,true,false,false,false,false,false,false,false,true,false,false,false,false,false,false,false] rfl rfl (take_ofW HT_.out HW_.out (by kernel_rfl)) (fun _ _ _ h => h) (Or.inl ⟨by rfl,?_⟩) hHeld ?_ ?_
                 rotate_left
                 ·rintro w' ⟨s0,s1,s2,s3,s4,s5,s6,s7⟩
                  go_simp
                  with_reducible rfl
                 rotate_left
                 ·simp only [Act.put,List.setIfInBounds_toArray,List.set_cons_zero,List.set_cons_succ,i64_w,i32_w,IntKind.wrap_u8]
                  rfl
                 refine take_ (i:=10) (N:=some 45) (v:=?_) (a':=?_) #[true,true,true,true,true,false,false,false,true,true,true,false,false,false,false,false,false,true,false,false,false,false,false,false,false] rfl rfl (take_ofW HT_.out HW_.out (by kernel_rfl)) (fun _ _ _ h => h) (Or.inl ⟨by rfl,?_⟩) hHeld ?_ ?_
                 rotate_left
                 ·rintro w' ⟨s0,s1,s2,s3,s4,s5,s6,s7⟩
                  go_simp
                  with_reducible rfl
                 rotate_left
                 ·simp only [Act.put,List.setIfInBounds_toArray,List.set_cons_zero,List.set_cons_succ,i64_w,i32_w,IntKind.wrap_u8]
                  rfl
                 refine pure_ (i:=11) (N:=some 46) (v:=?_) (a':=?_) #[true,true,true,true,true,false,false,false,true,true,true,true,false,false,false,false,false,true,false,false,false,false,false,false,false] rfl rfl (any_of HT_.out (by kernel_rfl)) (fun _ _ _ h => h) (Or.inl ⟨by rfl,?_⟩) ?_ ?_
                 rotate_left
                 ·intro w'
                  go_simp
                  with_reducible rfl
                 rotate_left
                 ·simp only [Act.put,List.setIfInBounds_toArray,List.set_cons_zero,List.set_cons_succ,i64_w,i32_w,IntKind.wrap_u8]
                  rfl
                 refine pure_ (i:=12) (N:=some 47) (v:=?_) (a':=?_) #[true,true,true,true,true,false,false,false,true,true,true,true,true,false,false,false,false,true,false,false,false,false,false,false,false] rfl rfl (any_of HT_.out (by kernel_rfl)) (fun _ _ _ h => h) (Or.inl ⟨by rfl,?_⟩) ?_ ?_
                 rotate_left
                 ·intro w'
                  go_simp
                  with_reducible rfl
                 rotate_left
                 ·simp only [Act.put,List.setIfInBounds_toArray,List.set_cons_zero,List.set_cons_succ,i64_w,i32_w,IntKind.wrap_u8]
                  rfl
                 refine take_ (i:=13) (N:=some 48) (v:=?_) (a':=?_) #[true,true,true,true,true,false,false,false,true,true,true,true,true,true,false,false,false,true,false,false,false,false,false,false,false] rfl rfl (take_ofW HT_.out HW_.out (by kernel_rfl)) (fun _ _ _ h => h) (Or.inl ⟨by rfl,?_⟩) hHeld ?_ ?_
                 rotate_left
                 ·rintro w' ⟨s0,s1,s2,s3,s4,s5,s6,s7⟩
                  go_simp
                  with_reducible rfl
                 rotate_left
                 ·simp only [Act.put,List.setIfInBounds_toArray,List.set_cons_zero,List.set_cons_succ,i64_w,i32_w,IntKind.wrap_u8]
                  rfl
                 refine take_ (i:=16) (N:=some 51) (v:=?_) (a':=?_) #[true,true,true,true,true,false,false,false,true,true,true,true,true,true,false,false,true,true,false,false,false,false,false,false,false] rfl rfl (take_ofW HT_.out HW_.out (by kernel_rfl)) (fun _ _ _ h => h) (Or.inl ⟨by rfl,?_⟩) hHeld ?_ ?_
                 rotate_left
                 ·rintro w' ⟨s0,s1,s2,s3,s4,s5,s6,s7⟩
                  go_simp
                  with_reducible rfl
                 rotate_left
                 ·simp only [Act.put,List.setIfInBounds_toArray,List.set_cons_zero,List.set_cons_succ,i64_w,i32_w,IntKind.wrap_u8]
                  rfl
                 refine take_ (i:=18) (N:=some 53) (v:=?_) (a':=?_) #[true,true,true,true,true,false,false,false,true,true,true,true,true,true,false,false,true,true,true,false,false,false,false,false,false] rfl rfl (take_ofW HT_.out HW_.out (by kernel_rfl)) (fun _ _ _ h => h) (Or.inl ⟨by rfl,?_⟩) hHeld ?_ ?_
                 rotate_left
                 ·rintro w' ⟨s0,s1,s2,s3,s4,s5,s6,s7⟩
                  go_simp
                  with_reducible rfl
                 rotate_left
                 ·simp only [Act.put,List.setIfInBounds_toArray,List.set_cons_zero,List.set_cons_succ,i64_w,i32_w,IntKind.wrap_u8]
                  rfl
                 refine pure_ (i:=19) (N:=some 54) (v:=?_) (a':=?_) #[true,true,true,true,true,false,false,false,true,true,true,true,true,true,false,false,true,true,true,true,false,false,false,false,false] rfl rfl (any_of HT_.out (by kernel_rfl)) (fun _ _ _ h => h) (Or.inl ⟨by rfl,?_⟩) ?_ ?_
                 rotate_left
                 ·intro w'
                  go_simp
                  with_reducible rfl
                 rotate_left
                 ·simp only [Act.put,List.setIfInBounds_toArray,List.set_cons_zero,List.set_cons_succ,i64_w,i32_w,IntKind.wrap_u8]
                  rfl
                 refine take_ (i:=20) (N:=some 55) (v:=?_) (a':=?_) #[true,true,true,true,true,false,false,false,true,true,true,true,true,true,false,false,true,true,true,true,true,false,false,false,false] rfl rfl (take_ofW HT_.out HW_.out (by kernel_rfl)) (fun _ _ _ h => h) (Or.inl ⟨by rfl,?_⟩) hHeld ?_ ?_
                 rotate_left
                 ·rintro w' ⟨s0,s1,s2,s3,s4,s5,s6,s7⟩
                  go_simp
                  with_reducible rfl
                 rotate_left
                 ·simp only [Act.put,List.setIfInBounds_toArray,List.set_cons_zero,List.set_cons_succ,i64_w,i32_w,IntKind.wrap_u8]
                  rfl
                 refine one_ (i:=5) (N:=some 40) #[true,true,true,true,true,true,false,false,true,true,true,true,true,true,false,false,true,true,true,true,true,false,false,false,false] rfl rfl (one_of HT_.out (by kernel_rfl)) (by decide) (fun K hK => ?_)
                 refine goes_ Tryd.func43 (by kernel_rfl) rfl #[.agg #[.slice (some ad143) l0_0.length c0_0],.int .i64 (rd ((rd_T70 l0_0 a1).f3) 0)] (by rfl) rfl rfl (by (try simp only [List.map_toArray,List.map_cons,List.map_nil]);first|done|rfl|(simp only [List.length_drop,List.length_take];rfl)) ?_
                 with_reducible refine (ih k (by omega) _ _ l0_0 (rd ((rd_T70 l0_0 a1).f3) 0) t152 _ ?side1 ?side2 A38.out).mono ?_
                 (case side1 => repeat (first|exact (Kd.C_below HR0_0.out HB.out)|(with_reducible refine Kd.C_alloc ?_ _)|(with_reducible refine Kd.C_drewN ?_ _)|(with_reducible refine Kd.C_drew ?_)))
                 (case side2 => exact HC0_0.out)
                 rintro e w59 ⟨rfl,hb⟩
                 have HS6_:=(hb.cell (zb_ _ _ (hHeld.2.2.2.2.2.2.1))).trans (hHeld.2.2.2.2.2.2.1)
                 refine ⟨_,rfl,?_⟩
                 have n0_:=zm_ (Kd.R_below (by (with_reducible repeat (first|apply Kd.R_alloc|apply Kd.R_drewN|apply Kd.R_drew));exact HO150.out) hb)
                 have n1_:=zm_ (blk_below (g:=gb142) (o:=.cells #[.slice (some ad143) l0_0.length c0_0] 44 (0,0)) (by (with_reducible repeat first|refine zl_ ?_ _|refine zr_ ?_|refine zk_ ?_ _);exact BK142.out) hb)
                 have n2_:=zm_ (blk_below (g:=gb144) (o:=.cells #[.int .i64 ((rd_T70 l0_0 a1).f0),.int .i64 ((rd_T70 l0_0 a1).f1),.string ((rd_T70 l0_0 a1).f2),.slice (some ad151) ((rd_T70 l0_0 a1).f3).length c143_3] 70 (0,0)) (by (with_reducible repeat first|refine zl_ ?_ _|refine zr_ ?_|refine zk_ ?_ _);exact BK144.out) hb)
                 have n3_:=zm_ (below_step (by repeat (first|(with_reducible first|exact HB.out|apply za_|apply zn_|apply zd_|refine zs_ ?_ GE142.out|refine zs_ ?_ GE144.out)|exact HB.out)) hb)
                 clear HO150
                 clear BK142
                 clear BK144
                 clear HB
                 have HO150:=n0_
                 have BK142:=n1_
                 have BK144:=n2_
                 have HB:=n3_
                 clear n0_ n1_ n2_ n3_
                 (try clear hb)
                 (try clear hb2)
                 (try clear hk)
                 (try clear hi)
                 refine hK.out _ _ ⟨(zc_ BK142.out 0).trans rfl,(zc_ BK144.out 0).trans rfl,(zc_ BK144.out 1).trans rfl,(zc_ BK144.out 2).trans rfl,(zc_ BK144.out 3).trans rfl,((HB.out.cell (zb_ w _ hw151_0)).trans hw151_0),HS6_,((HB.out.cell (zb_ w _ hw154_0)).trans hw154_0)⟩ (fun hHeld => ?_)
                 clear hK K
                 refine norm_ (a':=?_) ?_ ?_
                 rotate_left
                 ·show Act.put _ (some 40) _ = _
                  simp only [Act.put,List.setIfInBounds_toArray,List.set_cons_zero,List.set_cons_succ,i64_w,i32_w,IntKind.wrap_u8]
                  rfl
                 refine pure_ (i:=6) (N:=some 41) (v:=?_) (a':=?_) #[true,true,true,true,true,true,true,false,true,true,true,true,true,true,false,false,true,true,true,true,true,false,false,false,false] rfl rfl (any_of HT_.out (by kernel_rfl)) (fun _ _ _ h => h) (Or.inl ⟨by rfl,?_⟩) ?_ ?_
                 rotate_left
                 ·intro w'
                  go_simp
                  with_reducible rfl
                 rotate_left
                 ·simp only [Act.put,List.setIfInBounds_toArray,List.set_cons_zero,List.set_cons_succ,i64_w,i32_w,IntKind.wrap_u8]
                  rfl
                 refine pure_ (i:=7) (N:=some 42) (v:=?_) (a':=?_) #[true,true,true,true,true,true,true,true,true,true,true,true,true,true,false,false,true,true,true,true,true,false,false,false,false] rfl rfl (any_of HT_.out (by kernel_rfl)) (fun _ _ _ h => h) (Or.inl ⟨by rfl,?_⟩) ?_ ?_
                 rotate_left
                 ·intro w'
                  go_simp
                  with_reducible rfl
                 rotate_left
                 ·simp only [Act.put,List.setIfInBounds_toArray,List.set_cons_zero,List.set_cons_succ,i64_w,i32_w,IntKind.wrap_u8]
                  rfl
                 refine pure_ (i:=14) (N:=some 49) (v:=?_) (a':=?_) #[true,true,true,true,true,true,true,true,true,true,true,true,true,true,true,false,true,true,true,true,true,false,false,false,false] rfl rfl (any_of HT_.out (by kernel_rfl)) (fun _ _ _ h => h) (Or.inl ⟨by rfl,?_⟩) ?_ ?_
                 rotate_left
                 ·intro w'
                  go_simp
                  with_reducible rfl
                 rotate_left
                 ·simp only [Act.put,List.setIfInBounds_toArray,List.set_cons_zero,List.set_cons_succ,i64_w,i32_w,IntKind.wrap_u8]
                  rfl
                 refine pure_ (i:=15) (N:=some 50) (v:=?_) (a':=?_) #[true,true,true,true,true,true,true,true,true,true,true,true,true,true,true,true,true,true,true,true,true,false,false,false,false] rfl rfl (any_of HT_.out (by kernel_rfl)) (fun _ _ _ h => h) (Or.inl ⟨by rfl,?_⟩) ?_ ?_
                 rotate_left
                 ·intro w'
                  go_simp
                  with_reducible rfl
                 rotate_left
                 ·simp only [Act.put,List.setIfInBounds_toArray,List.set_cons_zero,List.set_cons_succ,i64_w,i32_w,IntKind.wrap_u8]
                  rfl
                 refine one_ (i:=21) (N:=some 56) #[true,true,true,true,true,true,true,true,true,true,true,true,true,true,true,true,true,true,true,true,true,true,false,false,false] rfl rfl (one_of HT_.out (by kernel_rfl)) (by decide) (fun K hK => ?_)
                 refine goes_ Tryd.func43 (by kernel_rfl) rfl #[.agg #[.slice (some ad143) l0_0.length c0_0],.int .i64 (rd ((rd_T70 l0_0 a1).f3) 1)] (by rfl) rfl rfl (by (try simp only [List.map_toArray,List.map_cons,List.map_nil]);first|done|rfl|(simp only [List.length_drop,List.length_take];rfl)) ?_
                 with_reducible refine (ih k (by omega) _ _ l0_0 (rd ((rd_T70 l0_0 a1).f3) 1) t155 _ ?side1 ?side2 A47.out).mono ?_
                 (case side1 => repeat (first|exact (Kd.C_below HR0_0.out HB.out)|(with_reducible refine Kd.C_alloc ?_ _)|(with_reducible refine Kd.C_drewN ?_ _)|(with_reducible refine Kd.C_drew ?_)))
                 (case side2 => exact HC0_0.out)
                 rintro e w60 ⟨rfl,hb⟩
                 have HS6_:=(hb.cell (zb_ _ _ (hHeld.2.2.2.2.2.2.1))).trans (hHeld.2.2.2.2.2.2.1)
                 refine ⟨_,rfl,?_⟩
                 have n0_:=zm_ (Kd.R_below (by (with_reducible repeat (first|apply Kd.R_alloc|apply Kd.R_drewN|apply Kd.R_drew));exact HO150.out) hb)
                 have n1_:=zm_ (blk_below (g:=gb142) (o:=.cells #[.slice (some ad143) l0_0.length c0_0] 44 (0,0)) (by (with_reducible repeat first|refine zl_ ?_ _|refine zr_ ?_|refine zk_ ?_ _);exact BK142.out) hb)
                 have n2_:=zm_ (blk_below (g:=gb144) (o:=.cells #[.int .i64 ((rd_T70 l0_0 a1).f0),.int .i64 ((rd_T70 l0_0 a1).f1),.string ((rd_T70 l0_0 a1).f2),.slice (some ad151) ((rd_T70 l0_0 a1).f3).length c143_3] 70 (0,0)) (by (with_reducible repeat first|refine zl_ ?_ _|refine zr_ ?_|refine zk_ ?_ _);exact BK144.out) hb)
                 have n3_:=zm_ (below_step (by repeat (first|(with_reducible first|exact HB.out|apply za_|apply zn_|apply zd_|refine zs_ ?_ GE142.out|refine zs_ ?_ GE144.out)|exact HB.out)) hb)
                 clear HO150
                 clear BK142
                 clear BK144
                 clear HB
                 have HO150:=n0_
                 have BK142:=n1_
                 have BK144:=n2_
                 have HB:=n3_
                 clear n0_ n1_ n2_ n3_
                 (try clear hb)
                 (try clear hb2)
                 (try clear hk)
                 (try clear hi)
                 refine hK.out _ _ ⟨(zc_ BK142.out 0).trans rfl,(zc_ BK144.out 0).trans rfl,(zc_ BK144.out 1).trans rfl,(zc_ BK144.out 2).trans rfl,(zc_ BK144.out 3).trans rfl,((HB.out.cell (zb_ w _ hw151_0)).trans hw151_0),HS6_,((HB.out.cell (zb_ w _ hw154_0)).trans hw154_0)⟩ (fun hHeld => ?_)
                 clear hK K
                 refine norm_ (a':=?_) ?_ ?_
                 rotate_left
                 ·show Act.put _ (some 56) _ = _
                  simp only [Act.put,List.setIfInBounds_toArray,List.set_cons_zero,List.set_cons_succ,i64_w,i32_w,IntKind.wrap_u8]
                  rfl
                 refine pure_ (i:=22) (N:=some 57) (v:=?_) (a':=?_) #[true,true,true,true,true,true,true,true,true,true,true,true,true,true,true,true,true,true,true,true,true,true,true,false,false] rfl rfl (any_of HT_.out (by kernel_rfl)) (fun _ _ _ h => h) (Or.inl ⟨by rfl,?_⟩) ?_ ?_
                 rotate_left
                 ·intro w'
                  go_simp
                  with_reducible rfl
                 rotate_left
                 ·simp only [Act.put,List.setIfInBounds_toArray,List.set_cons_zero,List.set_cons_succ,i64_w,i32_w,IntKind.wrap_u8]
                  rfl
                 refine pure_ (i:=23) (N:=some 58) (v:=?_) (a':=?_) #[true,true,true,true,true,true,true,true,true,true,true,true,true,true,true,true,true,true,true,true,true,true,true,true,false] rfl rfl (any_of HT_.out (by kernel_rfl)) (fun _ _ _ h => h) (Or.inl ⟨by rfl,?_⟩) ?_ ?_
                 rotate_left
                 ·intro w'
                  go_simp
                  with_reducible rfl
                 rotate_left
                 ·simp only [Act.put,List.setIfInBounds_toArray,List.set_cons_zero,List.set_cons_succ,i64_w,i32_w,IntKind.wrap_u8]
                  rfl
                 refine pure_ (i:=24) (N:=some 4) (v:=?_) (a':=?_) #[true,true,true,true,true,true,true,true,true,true,true,true,true,true,true,true,true,true,true,true,true,true,true,true,true] rfl rfl (any_of HT_.out (by kernel_rfl)) (fun _ _ _ h => h) (Or.inl ⟨by rfl,?_⟩) ?_ ?_
                 rotate_left
                 ·intro w'
                  go_simp
                  with_reducible rfl
                 rotate_left
                 ·simp only [Act.put,List.setIfInBounds_toArray,List.set_cons_zero,List.set_cons_succ,i64_w,i32_w,IntKind.wrap_u8]
                  rfl
                 refine done_ (done_of HT_.out (by kernel_rfl)) ?_
                 try go_wp2
                 go_ret
                 exact ⟨by first|rfl|(simp [errW_none,errW_some] <;> rfl)|(simp only [← hji41];first|rfl|(simp [errW_none,errW_some] <;> rfl))|(simp [*,errW_none,errW_some] <;> rfl),by repeat (first|(with_reducible first|exact HB.out|apply za_|apply zn_|apply zd_|refine zs_ ?_ GE142.out|refine zs_ ?_ GE144.out)|exact HB.out)⟩
                ·rw [if_neg c49] at H
                 exact absurd H (by simp)
               ·rw [if_neg c48] at H
                exact absurd H (by simp)
              ·rw [if_neg c46] at H
               exact absurd H (by simp)
             ·rw [if_neg c45] at H
              exact absurd H (by simp)
            ·rw [if_neg c44] at H
             exact absurd H (by simp)
           ·rw [if_neg c43] at H
            exact absurd H (by simp)
          ·rw [if_neg c42] at H
           exact absurd H (by simp)
         ·rw [if_neg c40] at H
          exact absurd H (by simp)
        ·rw [if_neg c39] at H
         exact absurd H (by simp)
       ·rw [if_neg c37] at H
        exact absurd H (by simp)
  ·rw [if_neg c4] at H
   exact absurd H (by simp)
 ·rw [if_neg c3] at H
  exact absurd H (by simp)

def spec_ShowExpr.f (k : Nat) (l0_0 : List (S70)) : Option (ByteArray):=(spec_ExprOk.f k l0_0).bind fun t157 => (if t157 = true then ((spec_l04Size.f k l0_0).bind fun t158 => (if t158 > 200 then (some (⟨#[]⟩ : ByteArray)) else ((spec_l04Show.f k l0_0 (wrap64 ((l0_0.length : Int) - 1))).bind fun t159 => (some t159)))) else (some (⟨#[]⟩ : ByteArray)))
theorem spec_ShowExpr.mono : ∀ a0 k,LeO (spec_ShowExpr.f k a0) (spec_ShowExpr.f (k + 1) a0):=by
 intro a0 k
 unfold spec_ShowExpr.f
 repeat' first
   |(with_reducible exact spec_ExprOk.mono _ _)
   |(with_reducible exact spec_l04Show.mono _ _ _)
   |(with_reducible exact spec_l04Size.mono _ _)
   |(with_reducible exact LeO.refl _)
   |(with_reducible exact LeO.none _)
   |(with_reducible refine LeO.ite ?_ ?_)
   |(with_reducible refine LeO.bind ?_ (fun _ => ?_))
set_option maxHeartbeats 8000000 in
set_option maxRecDepth 100000 in
theorem spec_ShowExpr.calls (k : Nat) (A0_0 : Option Addr) (c0_0 : Nat) (l0_0 : List (S70)) (r : ByteArray) (w : World) (hr0_0 : Kd.C k70 w A0_0 l0_0.length l0_0) (hc0_0 : l0_0.length ≤ c0_0) (h : spec_ShowExpr.f k l0_0 = some r) :
  Calls Tryd.prog 21 #[.agg #[.slice A0_0 l0_0.length c0_0]] w fun e w' => e = .returned (.string r) ∧ Below w.heap.size w w':=by
 have hu44:=Tryd.underlying44
 have HR0_0:=zm_ hr0_0
 have HC0_0:=zm_ hc0_0
 clear hr0_0 hc0_0
 have HB:=zm_ (Below.refl w.heap.size w)
 have H : ((spec_ExprOk.f k l0_0).bind fun t157 => (if t157 = true then ((spec_l04Size.f k l0_0).bind fun t158 => (if t158 > 200 then (some (⟨#[]⟩ : ByteArray)) else ((spec_l04Show.f k l0_0 (wrap64 ((l0_0.length : Int) - 1))).bind fun t159 => (some t159)))) else (some (⟨#[]⟩ : ByteArray)))) = some r:=h
 clear h
 replace H:=Option.bind_eq_some_iff.mp H
 obtain ⟨t157,A20,H⟩:=H
 replace H : (if t157 = true then ((spec_l04Size.f k l0_0).bind fun t158 => (if t158 > 200 then (some (⟨#[]⟩ : ByteArray)) else ((spec_l04Show.f k l0_0 (wrap64 ((l0_0.length : Int) - 1))).bind fun t159 => (some t159)))) else (some (⟨#[]⟩ : ByteArray))) = some r:=H
 have A2:=zm_ A20
 clear A20
 by_cases c3 : t157 = true
 ·subst c3
  have H1 : ((spec_l04Size.f k l0_0).bind fun t158 => (if t158 > 200 then (some (⟨#[]⟩ : ByteArray)) else ((spec_l04Show.f k l0_0 (wrap64 ((l0_0.length : Int) - 1))).bind fun t159 => (some t159)))) = some r:=by rw [if_pos rfl] at H;exact H
  clear H
  have H:=H1
  clear H1
  replace H:=Option.bind_eq_some_iff.mp H
  obtain ⟨t158,A40,H⟩:=H
  replace H : (if t158 > 200 then (some (⟨#[]⟩ : ByteArray)) else ((spec_l04Show.f k l0_0 (wrap64 ((l0_0.length : Int) - 1))).bind fun t159 => (some t159))) = some r:=H
  have A4:=zm_ A40
  clear A40
  by_cases c5 : t158 > 200
  ·rw [if_pos c5] at H
   have c5b0 : decide (200 < t158) = true:=decide_eq_true c5
   clear c5
   obtain rfl:=Option.some.inj H
   go_enter Tryd.func21,Tryd.ntmps21
   go_wp2_with (first|((with_reducible refine gate_dst (N:=1) rfl ?_);refine box_event ?hg (N:=1) ?hd (cs:=#[.slice A0_0 l0_0.length c0_0]) (t:=44) ?hr ?_;(case hd => rfl);(case hg => rfl);(case hr => first|(go_simp;done)|(go_simp;rfl));intro gb156 hg w6 hbox hb;have n0_:=zm_ (below_step (by repeat (first|(with_reducible first|exact HB.out|apply za_|apply zn_|apply zd_)|exact HB.out)) hb);have n1_:=zm_ (hbox);have n2_:=zm_ ((by rw [hg];exact (below_size (by repeat (first|(with_reducible first|exact HB.out|apply za_|apply zn_|apply zd_)|exact HB.out))) : w.heap.size ≤ gb156));have n3_:=zm_ ((by rw [hg];exact (below_size (by repeat (first|(with_reducible first|exact HB.out|apply za_|apply zn_|apply zd_)|exact HB.out))) : w.heap.size ≤ gb156));clear HB;have HB:=n0_;have BK156:=n1_;have GW156:=n2_;have GE156:=n3_;clear n0_ n1_ n2_ n3_;clear hb hbox hg;have hcz7_0 : w6.cell? ⟨gb156,0,none⟩ = some (.slice A0_0 l0_0.length c0_0):=(zc_ BK156.out 0).trans rfl;have hfz7_0:=zf_ BK156.out 0)|((with_reducible refine gate_callee (f:=41) rfl ?_);refine goesL_ (some 4) rfl rfl Tryd.func41 (by kernel_rfl) rfl #[.agg #[.slice A0_0 l0_0.length c0_0]] rfl (by (try simp only [List.map_toArray,List.map_cons,List.map_nil]);first|done|rfl|(simp only [List.length_drop,List.length_take];rfl)) ?_;(with_reducible refine (spec_ExprOk.calls k _ _ l0_0 true _ ?side1 ?side2 A2.out).mono ?_);(case side1 => repeat (first|exact (Kd.C_below HR0_0.out HB.out)|(with_reducible refine Kd.C_alloc ?_ _)|(with_reducible refine Kd.C_drewN ?_ _)|(with_reducible refine Kd.C_drew ?_)));(case side2 => exact HC0_0.out);rintro e w8 ⟨rfl,hb⟩;refine ⟨_,rfl,?_⟩;have n0_:=zm_ (blk_below (g:=gb156) (o:=.cells #[.slice A0_0 l0_0.length c0_0] 44 (0,0)) (by (with_reducible repeat first|refine zl_ ?_ _|refine zr_ ?_|refine zk_ ?_ _);exact BK156.out) hb);have n1_:=zm_ (below_step (by repeat (first|(with_reducible first|exact HB.out|apply za_|apply zn_|apply zd_|refine zs_ ?_ GE156.out)|exact HB.out)) hb);clear BK156;clear HB;have BK156:=n0_;have HB:=n1_;clear n0_ n1_;(try clear hb);(try clear hb2);(try clear hk);(try clear hi);have hcz9_0 : w8.cell? ⟨gb156,0,none⟩ = some (.slice A0_0 l0_0.length c0_0):=(zc_ BK156.out 0).trans rfl;have hfz9_0:=zf_ BK156.out 0)|(go_at_call 42;(with_reducible refine (spec_l04Size.calls k _ _ l0_0 t158 _ ?side1 ?side2 A4.out).mono ?_);(case side1 => repeat (first|exact (Kd.C_below HR0_0.out HB.out)|(with_reducible refine Kd.C_alloc ?_ _)|(with_reducible refine Kd.C_drewN ?_ _)|(with_reducible refine Kd.C_drew ?_)));(case side2 => exact HC0_0.out);rintro e w10 ⟨rfl,hb⟩;have n0_:=zm_ (blk_below (g:=gb156) (o:=.cells #[.slice A0_0 l0_0.length c0_0] 44 (0,0)) (by (with_reducible repeat first|refine zl_ ?_ _|refine zr_ ?_|refine zk_ ?_ _);exact BK156.out) hb);have n1_:=zm_ (below_step (by repeat (first|(with_reducible first|exact HB.out|apply za_|apply zn_|apply zd_|refine zs_ ?_ GE156.out)|exact HB.out)) hb);clear BK156;clear HB;have BK156:=n0_;have HB:=n1_;clear n0_ n1_;(try clear hb);(try clear hb2);(try clear hk);(try clear hi)))
   go_ret
   exact ⟨by first|rfl|(simp [errW_none,errW_some] <;> rfl)|(simp [*,errW_none,errW_some] <;> rfl),by repeat (first|(with_reducible first|exact HB.out|apply za_|apply zn_|apply zd_|refine zs_ ?_ GE156.out)|exact HB.out)⟩
  ·rw [if_neg c5] at H
   have c5b0 : decide (200 < t158) = false:=decide_eq_false c5
   clear c5
   replace H:=Option.bind_eq_some_iff.mp H
   obtain ⟨t159,A110,H⟩:=H
   replace H : (some t159) = some r:=H
   have A11:=zm_ A110
   clear A110
   obtain rfl:=Option.some.inj H
   go_enter Tryd.func21,Tryd.ntmps21
   go_wp2_with (first|((with_reducible refine gate_dst (N:=1) rfl ?_);refine box_event ?hg (N:=1) ?hd (cs:=#[.slice A0_0 l0_0.length c0_0]) (t:=44) ?hr ?_;(case hd => rfl);(case hg => rfl);(case hr => first|(go_simp;done)|(go_simp;rfl));intro gb156 hg w12 hbox hb;have n0_:=zm_ (below_step (by repeat (first|(with_reducible first|exact HB.out|apply za_|apply zn_|apply zd_)|exact HB.out)) hb);have n1_:=zm_ (hbox);have n2_:=zm_ ((by rw [hg];exact (below_size (by repeat (first|(with_reducible first|exact HB.out|apply za_|apply zn_|apply zd_)|exact HB.out))) : w.heap.size ≤ gb156));have n3_:=zm_ ((by rw [hg];exact (below_size (by repeat (first|(with_reducible first|exact HB.out|apply za_|apply zn_|apply zd_)|exact HB.out))) : w.heap.size ≤ gb156));clear HB;have HB:=n0_;have BK156:=n1_;have GW156:=n2_;have GE156:=n3_;clear n0_ n1_ n2_ n3_;clear hb hbox hg;have hcz13_0 : w12.cell? ⟨gb156,0,none⟩ = some (.slice A0_0 l0_0.length c0_0):=(zc_ BK156.out 0).trans rfl;have hfz13_0:=zf_ BK156.out 0)|((with_reducible refine gate_callee (f:=41) rfl ?_);refine goesL_ (some 4) rfl rfl Tryd.func41 (by kernel_rfl) rfl #[.agg #[.slice A0_0 l0_0.length c0_0]] rfl (by (try simp only [List.map_toArray,List.map_cons,List.map_nil]);first|done|rfl|(simp only [List.length_drop,List.length_take];rfl)) ?_;(with_reducible refine (spec_ExprOk.calls k _ _ l0_0 true _ ?side1 ?side2 A2.out).mono ?_);(case side1 => repeat (first|exact (Kd.C_below HR0_0.out HB.out)|(with_reducible refine Kd.C_alloc ?_ _)|(with_reducible refine Kd.C_drewN ?_ _)|(with_reducible refine Kd.C_drew ?_)));(case side2 => exact HC0_0.out);rintro e w14 ⟨rfl,hb⟩;refine ⟨_,rfl,?_⟩;have n0_:=zm_ (blk_below (g:=gb156) (o:=.cells #[.slice A0_0 l0_0.length c0_0] 44 (0,0)) (by (with_reducible repeat first|refine zl_ ?_ _|refine zr_ ?_|refine zk_ ?_ _);exact BK156.out) hb);have n1_:=zm_ (below_step (by repeat (first|(with_reducible first|exact HB.out|apply za_|apply zn_|apply zd_|refine zs_ ?_ GE156.out)|exact HB.out)) hb);clear BK156;clear HB;have BK156:=n0_;have HB:=n1_;clear n0_ n1_;(try clear hb);(try clear hb2);(try clear hk);(try clear hi);have hcz15_0 : w14.cell? ⟨gb156,0,none⟩ = some (.slice A0_0 l0_0.length c0_0):=(zc_ BK156.out 0).trans rfl;have hfz15_0:=zf_ BK156.out 0)|(go_at_call 42;(with_reducible refine (spec_l04Size.calls k _ _ l0_0 t158 _ ?side1 ?side2 A4.out).mono ?_);(case side1 => repeat (first|exact (Kd.C_below HR0_0.out HB.out)|(with_reducible refine Kd.C_alloc ?_ _)|(with_reducible refine Kd.C_drewN ?_ _)|(with_reducible refine Kd.C_drew ?_)));(case side2 => exact HC0_0.out);rintro e w16 ⟨rfl,hb⟩;have n0_:=zm_ (blk_below (g:=gb156) (o:=.cells #[.slice A0_0 l0_0.length c0_0] 44 (0,0)) (by (with_reducible repeat first|refine zl_ ?_ _|refine zr_ ?_|refine zk_ ?_ _);exact BK156.out) hb);have n1_:=zm_ (below_step (by repeat (first|(with_reducible first|exact HB.out|apply za_|apply zn_|apply zd_|refine zs_ ?_ GE156.out)|exact HB.out)) hb);clear BK156;clear HB;have BK156:=n0_;have HB:=n1_;clear n0_ n1_;(try clear hb);(try clear hb2);(try clear hk);(try clear hi);have hcz17_0 : w16.cell? ⟨gb156,0,none⟩ = some (.slice A0_0 l0_0.length c0_0):=(zc_ BK156.out 0).trans rfl;have hfz17_0:=zf_ BK156.out 0)|((with_reducible refine gate_callee (f:=43) rfl ?_);refine goesL_ (some 16) rfl rfl Tryd.func43 (by kernel_rfl) rfl #[.agg #[.slice A0_0 l0_0.length c0_0],.int .i64 (wrap64 ((l0_0.length : Int) - 1))] rfl (by (try simp only [List.map_toArray,List.map_cons,List.map_nil]);first|done|rfl|(simp only [List.length_drop,List.length_take];rfl)) ?_;(with_reducible refine (spec_l04Show.calls k _ _ l0_0 (wrap64 ((l0_0.length : Int) - 1)) t159 _ ?side1 ?side2 A11.out).mono ?_);(case side1 => repeat (first|exact (Kd.C_below HR0_0.out HB.out)|(with_reducible refine Kd.C_alloc ?_ _)|(with_reducible refine Kd.C_drewN ?_ _)|(with_reducible refine Kd.C_drew ?_)));(case side2 => exact HC0_0.out);rintro e w18 ⟨rfl,hb⟩;refine ⟨_,rfl,?_⟩;have n0_:=zm_ (blk_below (g:=gb156) (o:=.cells #[.slice A0_0 l0_0.length c0_0] 44 (0,0)) (by (with_reducible repeat first|refine zl_ ?_ _|refine zr_ ?_|refine zk_ ?_ _);exact BK156.out) hb);have n1_:=zm_ (below_step (by repeat (first|(with_reducible first|exact HB.out|apply za_|apply zn_|apply zd_|refine zs_ ?_ GE156.out)|exact HB.out)) hb);clear BK156;clear HB;have BK156:=n0_;have HB:=n1_;clear n0_ n1_;(try clear hb);(try clear hb2);(try clear hk);(try clear hi)))
   go_ret
   exact ⟨by first|rfl|(simp [errW_none,errW_some] <;> rfl)|(simp [*,errW_none,errW_some] <;> rfl),by repeat (first|(with_reducible first|exact HB.out|apply za_|apply zn_|apply zd_|refine zs_ ?_ GE156.out)|exact HB.out)⟩
 ·replace c3:=Bool.eq_false_iff.mpr c3
  subst c3
  have H1 : (some (⟨#[]⟩ : ByteArray)) = some r:=by rw [if_neg (show ¬ (false = true) by decide)] at H;exact H
  clear H
  have H:=H1
  clear H1
  obtain rfl:=Option.some.inj H
  go_enter Tryd.func21,Tryd.ntmps21
  go_wp2_with (first|((with_reducible refine gate_dst (N:=1) rfl ?_);refine box_event ?hg (N:=1) ?hd (cs:=#[.slice A0_0 l0_0.length c0_0]) (t:=44) ?hr ?_;(case hd => rfl);(case hg => rfl);(case hr => first|(go_simp;done)|(go_simp;rfl));intro gb156 hg w19 hbox hb;have n0_:=zm_ (below_step (by repeat (first|(with_reducible first|exact HB.out|apply za_|apply zn_|apply zd_)|exact HB.out)) hb);have n1_:=zm_ (hbox);have n2_:=zm_ ((by rw [hg];exact (below_size (by repeat (first|(with_reducible first|exact HB.out|apply za_|apply zn_|apply zd_)|exact HB.out))) : w.heap.size ≤ gb156));have n3_:=zm_ ((by rw [hg];exact (below_size (by repeat (first|(with_reducible first|exact HB.out|apply za_|apply zn_|apply zd_)|exact HB.out))) : w.heap.size ≤ gb156));clear HB;have HB:=n0_;have BK156:=n1_;have GW156:=n2_;have GE156:=n3_;clear n0_ n1_ n2_ n3_;clear hb hbox hg;have hcz20_0 : w19.cell? ⟨gb156,0,none⟩ = some (.slice A0_0 l0_0.length c0_0):=(zc_ BK156.out 0).trans rfl;have hfz20_0:=zf_ BK156.out 0)|((with_reducible refine gate_callee (f:=41) rfl ?_);refine goesL_ (some 4) rfl rfl Tryd.func41 (by kernel_rfl) rfl #[.agg #[.slice A0_0 l0_0.length c0_0]] rfl (by (try simp only [List.map_toArray,List.map_cons,List.map_nil]);first|done|rfl|(simp only [List.length_drop,List.length_take];rfl)) ?_;(with_reducible refine (spec_ExprOk.calls k _ _ l0_0 false _ ?side1 ?side2 A2.out).mono ?_);(case side1 => repeat (first|exact (Kd.C_below HR0_0.out HB.out)|(with_reducible refine Kd.C_alloc ?_ _)|(with_reducible refine Kd.C_drewN ?_ _)|(with_reducible refine Kd.C_drew ?_)));(case side2 => exact HC0_0.out);rintro e w21 ⟨rfl,hb⟩;refine ⟨_,rfl,?_⟩;have n0_:=zm_ (blk_below (g:=gb156) (o:=.cells #[.slice A0_0 l0_0.length c0_0] 44 (0,0)) (by (with_reducible repeat first|refine zl_ ?_ _|refine zr_ ?_|refine zk_ ?_ _);exact BK156.out) hb);have n1_:=zm_ (below_step (by repeat (first|(with_reducible first|exact HB.out|apply za_|apply zn_|apply zd_|refine zs_ ?_ GE156.out)|exact HB.out)) hb);clear BK156;clear HB;have BK156:=n0_;have HB:=n1_;clear n0_ n1_;(try clear hb);(try clear hb2);(try clear hk);(try clear hi)))
  go_ret
  exact ⟨by first|rfl|(simp [errW_none,errW_some] <;> rfl)|(simp [*,errW_none,errW_some] <;> rfl),by repeat (first|(with_reducible first|exact HB.out|apply za_|apply zn_|apply zd_|refine zs_ ?_ GE156.out)|exact HB.out)⟩

def laws_toIntS.l0 : Nat → List Int → List Int → Int → Option (List Int)
 |0,_,_,_ => none
 |k + 1,x0,x3,x4 => if x4 < (x0.length : Int) then (if 0 ≤ x4 then (if x4 < (x3.length : Int) then (laws_toIntS.l0 k x0 (x3.set (x4 : Int).toNat (rd x0 x4)) (wrap64 (x4 + 1))) else (none)) else (none)) else (some x3)
def laws_toIntS.f (k : Nat) (l0 : List Int) : Option (List Int):=if 0 ≤ (l0.length : Int) then (if ((l0.length : Int) : Int).toNat ≤ 35184372088832 then (laws_toIntS.l0 k l0 (List.replicate ((l0.length : Int) : Int).toNat 0) 0) else (none)) else (none)
theorem laws_toIntS.mono_l : ∀ k,(∀ y0 y1 y2,LeO (laws_toIntS.l0 k y0 y1 y2) (laws_toIntS.l0 (k + 1) y0 y1 y2))
 |0 => fun _ _ _ r h => by simp [laws_toIntS.l0] at h
 |k + 1 => by
  have ih0:=laws_toIntS.mono_l k
  ·intro y0 y1 y2
   unfold laws_toIntS.l0
   repeat' first
   |(with_reducible exact ih0 _ _ _)
   |(with_reducible exact LeO.refl _)
   |(with_reducible exact LeO.none _)
   |(with_reducible refine LeO.ite ?_ ?_)
   |(with_reducible refine LeO.bind ?_ (fun _ => ?_))
theorem laws_toIntS.mono : ∀ a0 k,LeO (laws_toIntS.f k a0) (laws_toIntS.f (k + 1) a0):=by
 intro a0 k
 have ih0:=laws_toIntS.mono_l k
 unfold laws_toIntS.f
 repeat' first
   |(with_reducible exact ih0 _ _ _)
   |(with_reducible exact LeO.refl _)
   |(with_reducible exact LeO.none _)
   |(with_reducible refine LeO.ite ?_ ?_)
   |(with_reducible refine LeO.bind ?_ (fun _ => ?_))
set_option maxHeartbeats 8000000 in
set_option maxRecDepth 100000 in
theorem laws_toIntS.calls (k : Nat) (A0 : Option Addr) (c0 : Nat) (l0 : List Int) (r : List Int) (w : World) (hr0 : Kd.C (Kd.int .i64) w A0 l0.length l0) (hc0 : l0.length ≤ c0) (h : laws_toIntS.f k l0 = some r) :
  Calls Tryd.prog 75 #[.slice A0 l0.length c0] w fun e w' => ∃ v0_ : Value,e = .returned (v0_) ∧ Kd.R (Kd.int .i64) 3 w' w.heap.size (fun _ => True) v0_ r ∧ Below w.heap.size w w':=by
 have HR0:=zm_ hr0
 have HC0:=zm_ hc0
 clear hr0 hc0
 have HB:=zm_ (Below.refl w.heap.size w)
 have H : (if 0 ≤ (l0.length : Int) then (if ((l0.length : Int) : Int).toNat ≤ 35184372088832 then (laws_toIntS.l0 k l0 (List.replicate ((l0.length : Int) : Int).toNat 0) 0) else (none)) else (none)) = some r:=h
 clear h
 by_cases c2 : 0 ≤ (l0.length : Int)
 ·rw [if_pos c2] at H
  have c2b0:=eq_true c2
  have c2b1 : decide (0 ≤ (l0.length : Int)) = true:=decide_eq_true c2
  clear c2
  by_cases c3 : ((l0.length : Int) : Int).toNat ≤ 35184372088832
  ·rw [if_pos c3] at H
   have c3b0:=eq_true c3
   have c3b1 : decide (((l0.length : Int) : Int).toNat ≤ 35184372088832) = true:=decide_eq_true c3
   clear c3
   obtain ⟨y160,hy160⟩ : ∃ y_ : List Int,y_ = (List.replicate ((l0.length : Int) : Int).toNat 0):=⟨_,rfl⟩
   replace H : (laws_toIntS.l0 k l0 y160 0) = some r:=by first|(rw [hy160];with_reducible exact H)|(have H2_:=(Option.bind_some _ _).symm.trans H;rw [hy160];with_reducible exact H2_)|(have H2_:=(Option.bind_some _ _).symm.trans H;with_reducible exact H2_)|with_reducible exact H|(rw [hy160];exact H)|exact H
   have Ny160:=zm_ hy160
   clear hy160
   have H':=zm_ H
   clear H
   go_enter Tryd.func75,Tryd.ntmps75
   go_wp2_with (first|((with_reducible refine gate_dst (N:=7) rfl ?_);refine Kd.R_make (Kd.int .i64) _ 3 rfl (N:=7) rfl 68 _ _ rfl (l0.length : Int) rfl rfl Tryd.underlying68 (.int .i64 0) 8 info3 rfl (by decide) (by omega) 0 (ok:=fun _ => True) (okp:=fun _ => True) rfl (fun _ hk => hk) trivial (zo_) (Nat.le_trans (Nat.mul_le_mul_right _ (zo_ : (l0.length : Int).toNat ≤ 35184372088832)) (by omega)) (Below.refl _ _) (Nat.le_refl _) ?_;intro v161 w4 ho5 hb hg_ hnew_;clear hg_ hnew_;(first|rw [← Ny160.out] at ho5|(simp only [Int.reduceToNat] at ho5;rw [← Ny160.out] at ho5));have n0_:=zm_ (Kd.R_lower ho5 (below_size (by repeat (first|(with_reducible first|exact HB.out|apply za_|apply zn_|apply zd_)|exact HB.out))));have n1_:=zm_ (below_step (by repeat (first|(with_reducible first|exact HB.out|apply za_|apply zn_|apply zd_)|exact HB.out)) hb);clear HB;have HO162:=n0_;have HB:=n1_;clear n0_ n1_;clear hb ho5))
   go_loopg [4] k (fun kq v4 w' => ∃ (x3_1 : List Int) (x4_1 : Int),v4 = .int .i64 x4_1 ∧ Aside0 (laws_toIntS.l0 kq l0 x3_1 x4_1 = some r) ∧ Aside0 (kq ≤ k) ∧ Aside0 (Kd.R (Kd.int .i64) 3 w' w.heap.size (fun _ => True) v161 x3_1) ∧ Aside0 (Below w.heap.size w w'))
   case atStart => exact ⟨(y160),(0),(by first|rfl|(exact congrArg Value.bool (isEmpty_ne _))|(exact congrArg Value.bool (isEmpty_ne' _))|(exact congrArg Value.bool (isEmpty_eq _))|(simp;done)|(simp [*];done)),H',⟨Nat.le_refl _⟩,⟨by (with_reducible repeat (first|apply Kd.R_alloc|apply Kd.R_drewN|apply Kd.R_drew));exact HO162.out⟩,⟨by repeat (first|(with_reducible first|exact HB.out|apply za_|apply zn_|apply zd_)|exact HB.out)⟩⟩
   case round =>
    clear H'
    try clear c2
    try clear c2b0
    try clear c2b1
    try clear p2
    try clear c3
    try clear c3b0
    try clear c3b1
    obtain ⟨x3_1,x4_1,rfl,HA,HK1,HO_3,HB⟩:=hrel
    cases gk with
    |zero => exact absurd HA.out (by simp [laws_toIntS.l0])
    |succ k1 =>
     have H:=HA.out
     clear HA
     simp only [laws_toIntS.l0] at H
     by_cases c6 : x4_1 < (l0.length : Int)
     ·rw [if_pos c6] at H
      have c6b0 : decide (x4_1 < (l0.length : Int)) = true:=decide_eq_true c6
      clear c6
      by_cases c7 : 0 ≤ x4_1
      ·rw [if_pos c7] at H
       have c7b0 : decide (0 ≤ x4_1) = true:=decide_eq_true c7
       clear c7
       by_cases c8 : x4_1 < (x3_1.length : Int)
       ·rw [if_pos c8] at H
        have c8b0 : decide (x4_1 < (x3_1.length : Int)) = true:=decide_eq_true c8
        clear c8
        obtain ⟨y164,hy164⟩ : ∃ y_ : List Int,y_ = (x3_1.set (x4_1 : Int).toNat (rd l0 x4_1)):=⟨_,rfl⟩
        replace H : (laws_toIntS.l0 k1 l0 y164 (wrap64 (x4_1 + 1))) = some r:=by first|(rw [hy164];with_reducible exact H)|(have H2_:=(Option.bind_some _ _).symm.trans H;rw [hy164];with_reducible exact H2_)|(have H2_:=(Option.bind_some _ _).symm.trans H;with_reducible exact H2_)|with_reducible exact H|(rw [hy164];exact H)|exact H
        have Ny164:=zm_ hy164
        clear hy164
        have H':=zm_ H
        clear H
        have p163 : 0 ≤ (x4_1 : Int):=zo_
        have q163 : x4_1 < (l0.length : Int):=zo_
        obtain ⟨ad163,e163,hx163_0⟩:=Kd.at_int HR0.out x4_1 p163 q163
        cases e163
        replace hx163_0:=(HB.out.cell (zb_ w _ hx163_0)).trans hx163_0
        replace p163:=eq_true p163
        replace q163:=eq_true q163
        have p9 : 0 ≤ (x4_1 : Int):=zo_
        have q9 : (x4_1 : Int) < ((x3_1.length : Int) : Int):=zo_
        obtain ⟨go9,co9,eo9,gb9,gl9,cl9,HG9⟩:=Kd.R_form HO_3.out (by omega)
        (first|cases eo9|(injection eo9 with ea_ en_ ec_;(first|subst ea_|(injection ea_ with ea_;subst ea_));subst ec_;clear en_))
        have GB9:=zm_ gb9
        have GG9:=zm_ HG9
        clear gb9 gl9 HG9
        obtain ⟨hx9_0,hf9_0⟩:=Kd.R_celln 0 HO_3.out (x4_1 : Int) p9 q9
        replace p9:=eq_true p9
        replace q9:=eq_true q9
        have HP10:=Kd.R_putg HO_3.out (x4_1 : Int) (rd l0 x4_1)
        go_wp2_with (first|((with_reducible refine gate_store (t:=3) (p:=20) rfl ?_);refine store_event (t:=3) (p:=20) (v:=?vo_w11) (w1:=(wr.setCell ⟨go9,(x4_1 : Int).toNat,none⟩ (.int .i64 (rd l0 x4_1)))) ?hg ?ho ?hn ?hr ?_;(case ho => rfl);(case hg => rfl);(case hn => rfl);(case hr => first|(go_simp;done)|(go_simp;rfl));intro w11 hw;have hg : wr.grownBy w11 (some go9):=(by rw [hw];exact HP10.2);have hp_ : Kd.R (Kd.int .i64) 3 w11 w.heap.size (fun _ => True) (.slice (some ⟨go9,0,none⟩) x3_1.length co9) y164:=(by rw [hw,Ny164.out];exact HP10.1);clear HP10;have n0_:=zm_ (hp_);have n1_:=zm_ ((by rw [hw];exact zs_ (HB.out) GB9.out : Below w.heap.size w w11));clear HO_3;clear HB;have HO_3:=n0_;have HB:=n1_;clear n0_ n1_;clear hg hw hp_))
        go_roundg k1
        case measure => have:=HK1.out;omega
        case rel => exact ⟨(y164),(wrap64 (x4_1 + 1)),(by first|rfl|(exact congrArg Value.bool (isEmpty_ne _))|(exact congrArg Value.bool (isEmpty_ne' _))|(exact congrArg Value.bool (isEmpty_eq _))|(simp;done)|(simp [*];done)),H',⟨by have:=HK1.out;omega⟩,⟨by (with_reducible repeat (first|apply Kd.R_alloc|apply Kd.R_drewN|apply Kd.R_drew));exact HO_3.out⟩,⟨by repeat (first|(with_reducible first|exact HB.out|apply za_|apply zn_|apply zd_)|exact HB.out)⟩⟩
       ·rw [if_neg c8] at H
        exact absurd H (by simp)
      ·rw [if_neg c7] at H
       exact absurd H (by simp)
     ·rw [if_neg c6] at H
      have c6b0 : decide (x4_1 < (l0.length : Int)) = false:=decide_eq_false c6
      clear c6
      obtain rfl:=Option.some.inj H
      go_wp2
      go_ret
      exact ⟨_,by first|rfl|(simp [errW_none,errW_some] <;> rfl)|(simp [*,errW_none,errW_some] <;> rfl),by (with_reducible repeat (first|apply Kd.R_alloc|apply Kd.R_drewN|apply Kd.R_drew));exact HO_3.out,by repeat (first|(with_reducible first|exact HB.out|apply za_|apply zn_|apply zd_)|exact HB.out)⟩
  ·rw [if_neg c3] at H
   exact absurd H (by simp)
 ·rw [if_neg c2] at H
  exact absurd H (by simp)

end Go.Proofs.YtnmhggdaccbbfaaDoor.MFnExactShowExpr
