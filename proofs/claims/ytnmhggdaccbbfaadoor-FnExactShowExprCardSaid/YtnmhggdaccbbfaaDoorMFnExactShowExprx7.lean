import Derived.Test.YtnmhggdaccbbfaaDoorMFnExactShowExprx0
import Derived.Test.YtnmhggdaccbbfaaDoorMFnExactShowExprx6
namespace Go.Proofs.YtnmhggdaccbbfaaDoor.MFnExactShowExpr
open Go.RowKit Go.Proofs.YtnmhggdaccbbfaaDoorW.PrintWords Go.Proofs.YtnmhggdaccbbfaaDoorW.PrintLast Go.Proofs.YtnmhggdaccbbfaaDoorW.PrintMore
attribute [local go_sem] max2_int min2_int max_two min_two max_three min_three max_four min_four
set_option linter.unusedVariables false
set_option linter.unusedSimpArgs false

def impl_showNode.f : Nat → List (S70) → Int → Option (ByteArray)
 |0,_,_ => none
 |k + 1,l0_0,a1 => if 0 ≤ a1 then (if a1 < (l0_0.length : Int) then (if ((rd_T70 l0_0 a1).f0) = 1 then ((impl_Decimal.f ((rd_T70 l0_0 a1).f1)).bind fun t214 => (some t214)) else (if ((rd_T70 l0_0 a1).f0) = 2 then (some ((rd_T70 l0_0 a1).f2)) else (if ((rd_T70 l0_0 a1).f0) = 3 then (some (⟨#[64]⟩ : ByteArray)) else (if ((rd_T70 l0_0 a1).f0) = 11 then (if 0 < (((rd_T70 l0_0 a1).f3).length : Int) then ((impl_showNode.f k l0_0 (rd ((rd_T70 l0_0 a1).f3) 0)).bind fun t216 => (if 1 + t216.size ≤ 9223372036854775807 then (some ((⟨#[33]⟩ : ByteArray) ++ t216)) else (none))) else (none)) else (if 0 ≤ (wrap64 (((rd_T70 l0_0 a1).f0) - 4)) then (if (wrap64 (((rd_T70 l0_0 a1).f0) - 4)) ≤ (wrap64 ((wrap64 (((rd_T70 l0_0 a1).f0) - 4)) + 1)) then (if (wrap64 ((wrap64 (((rd_T70 l0_0 a1).f0) - 4)) + 1)) ≤ 7 then (if 0 < (((rd_T70 l0_0 a1).f3).length : Int) then ((impl_showNode.f k l0_0 (rd ((rd_T70 l0_0 a1).f3) 0)).bind fun t218 => (if 1 + t218.size ≤ 9223372036854775807 then (if ((⟨#[40]⟩ : ByteArray) ++ t218).size + 1 ≤ 9223372036854775807 then (if (((⟨#[40]⟩ : ByteArray) ++ t218) ++ (⟨#[32]⟩ : ByteArray)).size + ((⟨#[43,45,42,47,60,61,38]⟩ : ByteArray).extract ((wrap64 (((rd_T70 l0_0 a1).f0) - 4)) : Int).toNat ((wrap64 ((wrap64 (((rd_T70 l0_0 a1).f0) - 4)) + 1)) : Int).toNat).size ≤ 9223372036854775807 then (if ((((⟨#[40]⟩ : ByteArray) ++ t218) ++ (⟨#[32]⟩ : ByteArray)) ++ ((⟨#[43,45,42,47,60,61,38]⟩ : ByteArray).extract ((wrap64 (((rd_T70 l0_0 a1).f0) - 4)) : Int).toNat ((wrap64 ((wrap64 (((rd_T70 l0_0 a1).f0) - 4)) + 1)) : Int).toNat)).size + 1 ≤ 9223372036854775807 then (if 1 < (((rd_T70 l0_0 a1).f3).length : Int) then ((impl_showNode.f k l0_0 (rd ((rd_T70 l0_0 a1).f3) 1)).bind fun t220 => (if (((((⟨#[40]⟩ : ByteArray) ++ t218) ++ (⟨#[32]⟩ : ByteArray)) ++ ((⟨#[43,45,42,47,60,61,38]⟩ : ByteArray).extract ((wrap64 (((rd_T70 l0_0 a1).f0) - 4)) : Int).toNat ((wrap64 ((wrap64 (((rd_T70 l0_0 a1).f0) - 4)) + 1)) : Int).toNat)) ++ (⟨#[32]⟩ : ByteArray)).size + t220.size ≤ 9223372036854775807 then (if ((((((⟨#[40]⟩ : ByteArray) ++ t218) ++ (⟨#[32]⟩ : ByteArray)) ++ ((⟨#[43,45,42,47,60,61,38]⟩ : ByteArray).extract ((wrap64 (((rd_T70 l0_0 a1).f0) - 4)) : Int).toNat ((wrap64 ((wrap64 (((rd_T70 l0_0 a1).f0) - 4)) + 1)) : Int).toNat)) ++ (⟨#[32]⟩ : ByteArray)) ++ t220).size + 1 ≤ 9223372036854775807 then (some (((((((⟨#[40]⟩ : ByteArray) ++ t218) ++ (⟨#[32]⟩ : ByteArray)) ++ ((⟨#[43,45,42,47,60,61,38]⟩ : ByteArray).extract ((wrap64 (((rd_T70 l0_0 a1).f0) - 4)) : Int).toNat ((wrap64 ((wrap64 (((rd_T70 l0_0 a1).f0) - 4)) + 1)) : Int).toNat)) ++ (⟨#[32]⟩ : ByteArray)) ++ t220) ++ (⟨#[41]⟩ : ByteArray))) else (none)) else (none))) else (none)) else (none)) else (none)) else (none)) else (none))) else (none)) else (none)) else (none)) else (none)))))) else (none)) else (none)
theorem impl_showNode.mono_l : ∀ k,(∀ y0 y1,LeO (impl_showNode.f k y0 y1) (impl_showNode.f (k + 1) y0 y1))
 |0 => fun _ _ r h => by simp [impl_showNode.f] at h
 |k + 1 => by
  have ih0:=impl_showNode.mono_l k
  ·intro y0 y1
   unfold impl_showNode.f
   repeat' first
   |(with_reducible exact ih0 _ _)
   |(with_reducible exact LeO.refl _)
   |(with_reducible exact LeO.none _)
   |(with_reducible refine LeO.ite ?_ ?_)
   |(with_reducible refine LeO.bind ?_ (fun _ => ?_))
theorem impl_showNode.mono : ∀ a0 a1 k,LeO (impl_showNode.f k a0 a1) (impl_showNode.f (k + 1) a0 a1):=by
 intro a0 a1 k
 have ih0:=impl_showNode.mono_l k
 exact ih0 a0 a1
def impl_showNode.T10 : Bool × List (List Nat × List Nat):=(true,[([],[]),([],[]),([1],[1]),([2],[2]),([3],[3]),([0,4],[0,4]),([5],[5]),([6,5,0,1,2,3,4,5,6],[6])])
def impl_showNode.B10 : List Nat:=[0,0,2,6,14,31,63,127]
theorem impl_showNode.tab10 : rtab .any (opsOf Tryd.f46 10) = impl_showNode.T10:=by kernel_rfl
theorem impl_showNode.bits10 : waitsOk impl_showNode.T10.2 impl_showNode.B10 = true:=by kernel_rfl
def impl_showNode.T12 : Bool × List (List Nat × List Nat):=(true,[([],[]),([],[]),([1],[1]),([2],[2]),([3],[3]),([0,4],[0,4]),([5],[5]),([6],[6]),([],[]),([7,8],[7,8]),([9],[9]),([],[]),([],[]),([12],[12]),([13],[13]),([14],[14]),([11,15,5],[11,15]),([10,16],[10,16]),([17],[17]),([18,16,0,1,2,3,4,5,6,7,8,9,10,11,12,13,14,15,16,17,18],[18])])
def impl_showNode.B12 : List Nat:=[0,0,2,6,14,31,63,127,0,511,1023,0,0,4096,12288,28672,63551,131071,262143,524287]
theorem impl_showNode.tab12 : rtab .any (opsOf Tryd.f46 12) = impl_showNode.T12:=by kernel_rfl
theorem impl_showNode.bits12 : waitsOk impl_showNode.T12.2 impl_showNode.B12 = true:=by kernel_rfl
set_option maxHeartbeats 8000000 in
set_option maxRecDepth 100000 in
theorem impl_showNode.calls (k : Nat) : ∀ (A0_0 : Option Addr) (c0_0 : Nat) (l0_0 : List (S70)) (a1 : Int) (r : ByteArray) (w : World) (hr0_0 : Kd.C k70 w A0_0 l0_0.length l0_0) (hc0_0 : l0_0.length ≤ c0_0) (htab_ : Tb w) (h : impl_showNode.f k l0_0 a1 = some r),
  Calls Tryd.prog 46 #[.agg #[.slice A0_0 l0_0.length c0_0],.int .i64 a1] w fun e w' => e = .returned (.string r) ∧ Below w.heap.size w w':=by
 induction k using Nat.strongRecOn with
 |_ k ih =>
 intro A0_0 c0_0 l0_0 a1 r w hr0_0 hc0_0 htab_ h
 have HTAB:=zm_ htab_
 clear htab_
 cases k with
 |zero => exact absurd h (by simp [impl_showNode.f])
 |succ k =>
 simp only [impl_showNode.f] at h
 have hu44:=Tryd.underlying44
 have hu70:=Tryd.underlying70
 have HR0_0:=zm_ hr0_0
 have HC0_0:=zm_ hc0_0
 clear hr0_0 hc0_0
 have HB:=zm_ (Below.refl w.heap.size w)
 have H : (if 0 ≤ a1 then (if a1 < (l0_0.length : Int) then (if ((rd_T70 l0_0 a1).f0) = 1 then ((impl_Decimal.f ((rd_T70 l0_0 a1).f1)).bind fun t214 => (some t214)) else (if ((rd_T70 l0_0 a1).f0) = 2 then (some ((rd_T70 l0_0 a1).f2)) else (if ((rd_T70 l0_0 a1).f0) = 3 then (some (⟨#[64]⟩ : ByteArray)) else (if ((rd_T70 l0_0 a1).f0) = 11 then (if 0 < (((rd_T70 l0_0 a1).f3).length : Int) then ((impl_showNode.f k l0_0 (rd ((rd_T70 l0_0 a1).f3) 0)).bind fun t216 => (if 1 + t216.size ≤ 9223372036854775807 then (some ((⟨#[33]⟩ : ByteArray) ++ t216)) else (none))) else (none)) else (if 0 ≤ (wrap64 (((rd_T70 l0_0 a1).f0) - 4)) then (if (wrap64 (((rd_T70 l0_0 a1).f0) - 4)) ≤ (wrap64 ((wrap64 (((rd_T70 l0_0 a1).f0) - 4)) + 1)) then (if (wrap64 ((wrap64 (((rd_T70 l0_0 a1).f0) - 4)) + 1)) ≤ 7 then (if 0 < (((rd_T70 l0_0 a1).f3).length : Int) then ((impl_showNode.f k l0_0 (rd ((rd_T70 l0_0 a1).f3) 0)).bind fun t218 => (if 1 + t218.size ≤ 9223372036854775807 then (if ((⟨#[40]⟩ : ByteArray) ++ t218).size + 1 ≤ 9223372036854775807 then (if (((⟨#[40]⟩ : ByteArray) ++ t218) ++ (⟨#[32]⟩ : ByteArray)).size + ((⟨#[43,45,42,47,60,61,38]⟩ : ByteArray).extract ((wrap64 (((rd_T70 l0_0 a1).f0) - 4)) : Int).toNat ((wrap64 ((wrap64 (((rd_T70 l0_0 a1).f0) - 4)) + 1)) : Int).toNat).size ≤ 9223372036854775807 then (if ((((⟨#[40]⟩ : ByteArray) ++ t218) ++ (⟨#[32]⟩ : ByteArray)) ++ ((⟨#[43,45,42,47,60,61,38]⟩ : ByteArray).extract ((wrap64 (((rd_T70 l0_0 a1).f0) - 4)) : Int).toNat ((wrap64 ((wrap64 (((rd_T70 l0_0 a1).f0) - 4)) + 1)) : Int).toNat)).size + 1 ≤ 9223372036854775807 then (if 1 < (((rd_T70 l0_0 a1).f3).length : Int) then ((impl_showNode.f k l0_0 (rd ((rd_T70 l0_0 a1).f3) 1)).bind fun t220 => (if (((((⟨#[40]⟩ : ByteArray) ++ t218) ++ (⟨#[32]⟩ : ByteArray)) ++ ((⟨#[43,45,42,47,60,61,38]⟩ : ByteArray).extract ((wrap64 (((rd_T70 l0_0 a1).f0) - 4)) : Int).toNat ((wrap64 ((wrap64 (((rd_T70 l0_0 a1).f0) - 4)) + 1)) : Int).toNat)) ++ (⟨#[32]⟩ : ByteArray)).size + t220.size ≤ 9223372036854775807 then (if ((((((⟨#[40]⟩ : ByteArray) ++ t218) ++ (⟨#[32]⟩ : ByteArray)) ++ ((⟨#[43,45,42,47,60,61,38]⟩ : ByteArray).extract ((wrap64 (((rd_T70 l0_0 a1).f0) - 4)) : Int).toNat ((wrap64 ((wrap64 (((rd_T70 l0_0 a1).f0) - 4)) + 1)) : Int).toNat)) ++ (⟨#[32]⟩ : ByteArray)) ++ t220).size + 1 ≤ 9223372036854775807 then (some (((((((⟨#[40]⟩ : ByteArray) ++ t218) ++ (⟨#[32]⟩ : ByteArray)) ++ ((⟨#[43,45,42,47,60,61,38]⟩ : ByteArray).extract ((wrap64 (((rd_T70 l0_0 a1).f0) - 4)) : Int).toNat ((wrap64 ((wrap64 (((rd_T70 l0_0 a1).f0) - 4)) + 1)) : Int).toNat)) ++ (⟨#[32]⟩ : ByteArray)) ++ t220) ++ (⟨#[41]⟩ : ByteArray))) else (none)) else (none))) else (none)) else (none)) else (none)) else (none)) else (none))) else (none)) else (none)) else (none)) else (none)))))) else (none)) else (none)) = some r:=h
 clear h
 by_cases c3 : 0 ≤ a1
 ·rw [if_pos c3] at H
  have c3b0 : decide (0 ≤ a1) = true:=decide_eq_true c3
  clear c3
  by_cases c4 : a1 < (l0_0.length : Int)
  ·rw [if_pos c4] at H
   have c4b0 : decide (a1 < (l0_0.length : Int)) = true:=decide_eq_true c4
   clear c4
   by_cases c5 : ((rd_T70 l0_0 a1).f0) = 1
   ·rw [if_pos c5] at H
    have c5b0 : (((rd_T70 l0_0 a1).f0) == 1) = true:=beq_iff_eq.mpr c5
    have c5b1 : (((rd_T70 l0_0 a1).f0) != 1) = false:=bne_eq_false_iff_eq.mpr c5
    clear c5
    replace H:=Option.bind_eq_some_iff.mp H
    obtain ⟨t214,A60,H⟩:=H
    replace H : (some t214) = some r:=H
    have A6:=zm_ A60
    clear A60
    obtain rfl:=Option.some.inj H
    go_enter Tryd.func46,Tryd.ntmps46
    go_wp2_with (first|((with_reducible refine gate_dst (N:=2) rfl ?_);refine box_event ?hg (N:=2) ?hd (cs:=#[.slice A0_0 l0_0.length c0_0]) (t:=44) ?hr ?_;(case hd => rfl);(case hg => rfl);(case hr => first|(go_simp;done)|(go_simp;rfl));intro gb211 hg w7 hbox hb;have n0_:=zm_ (below_step (by repeat (first|(with_reducible first|exact HB.out|apply za_|apply zn_|apply zd_)|exact HB.out)) hb);have n1_:=zm_ (hbox);have n2_:=zm_ ((by rw [hg];exact (below_size (by repeat (first|(with_reducible first|exact HB.out|apply za_|apply zn_|apply zd_)|exact HB.out))) : w.heap.size ≤ gb211));have n3_:=zm_ ((by rw [hg];exact (below_size (by repeat (first|(with_reducible first|exact HB.out|apply za_|apply zn_|apply zd_)|exact HB.out))) : w.heap.size ≤ gb211));clear HB;have HB:=n0_;have BK211:=n1_;have GW211:=n2_;have GE211:=n3_;clear n0_ n1_ n2_ n3_;clear hb hbox hg;have hcz8_0 : w7.cell? ⟨gb211,0,none⟩ = some (.slice A0_0 l0_0.length c0_0):=(zc_ BK211.out 0).trans rfl;have hfz8_0:=zf_ BK211.out 0;have p212 : 0 ≤ (a1 : Int):=zo_;have q212 : a1 < (l0_0.length : Int):=zo_;obtain ⟨ad212,A212_3,c212_3,e212,hx212_0,hx212_1,hx212_2,hx212_3,hl212_3,hi212_3⟩:=at_T70 HR0_0.out a1 p212 q212;cases e212;replace hx212_0:=(HB.out.cell (zb_ w _ hx212_0)).trans hx212_0;replace hx212_1:=(HB.out.cell (zb_ w _ hx212_1)).trans hx212_1;replace hx212_2:=(HB.out.cell (zb_ w _ hx212_2)).trans hx212_2;replace hx212_3:=(HB.out.cell (zb_ w _ hx212_3)).trans hx212_3;have HR212_3:=zm_ hi212_3;have HC212_3:=zm_ hl212_3;clear hi212_3 hl212_3;replace p212:=eq_true p212;replace q212:=eq_true q212)|((with_reducible refine gate_dst (N:=5) rfl ?_);refine box_event ?hg (N:=5) ?hd (cs:=#[.int .i64 0,.int .i64 0,.string (⟨#[]⟩ : ByteArray),.slice none 0 0]) (t:=70) ?hr ?_;(case hd => rfl);(case hg => rfl);(case hr => first|(go_simp;done)|(go_simp;rfl));intro gb213 hg w9 hbox hb;have n0_:=zm_ (blk_below (g:=gb211) (o:=.cells #[.slice (some ad212) l0_0.length c0_0] 44 (0,0)) (by (with_reducible repeat first|refine zl_ ?_ _|refine zr_ ?_|refine zk_ ?_ _);exact BK211.out) hb);have n1_:=zm_ (below_step (by repeat (first|(with_reducible first|exact HB.out|apply za_|apply zn_|apply zd_|refine zs_ ?_ GE211.out)|exact HB.out)) hb);have n2_:=zm_ (hbox);have n3_:=zm_ ((by rw [hg];exact (below_size (by repeat (first|(with_reducible first|exact HB.out|apply za_|apply zn_|apply zd_|refine zs_ ?_ GE211.out)|exact HB.out))) : w.heap.size ≤ gb213));have n4_:=zm_ ((by rw [hg];exact (below_size (by repeat (first|(with_reducible first|exact HB.out|apply za_|apply zn_|apply zd_|refine zs_ ?_ GE211.out)|exact HB.out))) : w.heap.size ≤ gb213));have n5_:=zm_ ((by rw [hg];exact Nat.ne_of_lt (blk_lt (g:=gb211) (o:=.cells #[.slice (some ad212) l0_0.length c0_0] 44 (0,0)) (by (with_reducible repeat first|refine zl_ ?_ _|refine zr_ ?_|refine zk_ ?_ _);exact BK211.out)) : gb211 ≠ gb213));have n6_:=zm_ ((by rw [hg];exact Nat.ne_of_gt (blk_lt (g:=gb211) (o:=.cells #[.slice (some ad212) l0_0.length c0_0] 44 (0,0)) (by (with_reducible repeat first|refine zl_ ?_ _|refine zr_ ?_|refine zk_ ?_ _);exact BK211.out)) : gb213 ≠ gb211));clear BK211;clear HB;have BK211:=n0_;have HB:=n1_;have BK213:=n2_;have GW213:=n3_;have GE213:=n4_;have NB211_213:=n5_;have NB213_211:=n6_;clear n0_ n1_ n2_ n3_ n4_ n5_ n6_;clear hb hbox hg;have hnb10:=NB213_211.out;have hnc10:=NB211_213.out;have hcz11_0 : w9.cell? ⟨gb213,0,none⟩ = some (.int .i64 0):=(zc_ BK213.out 0).trans rfl;have hcz11_1 : w9.cell? ⟨gb213,1,none⟩ = some (.int .i64 0):=(zc_ BK213.out 1).trans rfl;have hcz11_2 : w9.cell? ⟨gb213,2,none⟩ = some (.string (⟨#[]⟩ : ByteArray)):=(zc_ BK213.out 2).trans rfl;have hcz11_3 : w9.cell? ⟨gb213,3,none⟩ = some (.slice none 0 0):=(zc_ BK213.out 3).trans rfl;have hfz11_0:=zf_ BK213.out 0;have hfz11_1:=zf_ BK213.out 1;have hfz11_2:=zf_ BK213.out 2;have hfz11_3:=zf_ BK213.out 3)|((with_reducible refine gate_callee (f:=9) rfl ?_);refine goesL_ (some 18) rfl rfl Tryd.func9 (by kernel_rfl) rfl #[.int .i64 ((rd_T70 l0_0 a1).f1)] rfl (by (try simp only [List.map_toArray,List.map_cons,List.map_nil]);first|done|rfl|(simp only [List.length_drop,List.length_take];rfl)) ?_;(with_reducible refine (impl_Decimal.calls ((rd_T70 l0_0 a1).f1) t214 _ (Tb.below HTAB.out (by repeat (first|(with_reducible first|exact HB.out|apply za_|apply zn_|apply zd_|refine zs_ ?_ GE211.out|refine zs_ ?_ GE213.out)|exact HB.out))) A6.out).mono ?_);rintro e w12 ⟨rfl,hb⟩;refine ⟨_,rfl,?_⟩;have n0_:=zm_ (blk_below (g:=gb211) (o:=.cells #[.slice (some ad212) l0_0.length c0_0] 44 (0,0)) (by (with_reducible repeat first|refine zl_ ?_ _|refine zr_ ?_|refine zk_ ?_ _);refine blk_far ?_ NB211_213.out _;(with_reducible repeat first|refine zl_ ?_ _|refine zr_ ?_|refine zk_ ?_ _);refine blk_far ?_ NB211_213.out _;(with_reducible repeat first|refine zl_ ?_ _|refine zr_ ?_|refine zk_ ?_ _);refine blk_far ?_ NB211_213.out _;(with_reducible repeat first|refine zl_ ?_ _|refine zr_ ?_|refine zk_ ?_ _);refine blk_far ?_ NB211_213.out _;(with_reducible repeat first|refine zl_ ?_ _|refine zr_ ?_|refine zk_ ?_ _);exact BK211.out) hb);have n1_:=zm_ (blk_below (g:=gb213) (o:=.cells #[.int .i64 ((rd_T70 l0_0 a1).f0),.int .i64 ((rd_T70 l0_0 a1).f1),.string ((rd_T70 l0_0 a1).f2),.slice A212_3 ((rd_T70 l0_0 a1).f3).length c212_3] 70 (0,0)) (by (with_reducible repeat first|refine zl_ ?_ _|refine zr_ ?_|refine zk_ ?_ _);refine blk_put (cs:=#[.int .i64 ((rd_T70 l0_0 a1).f0),.int .i64 ((rd_T70 l0_0 a1).f1),.string ((rd_T70 l0_0 a1).f2),.slice none 0 0]) ?_ 3 _ rfl;(with_reducible repeat first|refine zl_ ?_ _|refine zr_ ?_|refine zk_ ?_ _);refine blk_put (cs:=#[.int .i64 ((rd_T70 l0_0 a1).f0),.int .i64 ((rd_T70 l0_0 a1).f1),.string (⟨#[]⟩ : ByteArray),.slice none 0 0]) ?_ 2 _ rfl;(with_reducible repeat first|refine zl_ ?_ _|refine zr_ ?_|refine zk_ ?_ _);refine blk_put (cs:=#[.int .i64 ((rd_T70 l0_0 a1).f0),.int .i64 0,.string (⟨#[]⟩ : ByteArray),.slice none 0 0]) ?_ 1 _ rfl;(with_reducible repeat first|refine zl_ ?_ _|refine zr_ ?_|refine zk_ ?_ _);refine blk_put (cs:=#[.int .i64 0,.int .i64 0,.string (⟨#[]⟩ : ByteArray),.slice none 0 0]) ?_ 0 _ rfl;(with_reducible repeat first|refine zl_ ?_ _|refine zr_ ?_|refine zk_ ?_ _);exact BK213.out) hb);have n2_:=zm_ (below_step (by repeat (first|(with_reducible first|exact HB.out|apply za_|apply zn_|apply zd_|refine zs_ ?_ GE211.out|refine zs_ ?_ GE213.out)|exact HB.out)) hb);clear BK211;clear BK213;clear HB;have BK211:=n0_;have BK213:=n1_;have HB:=n2_;clear n0_ n1_ n2_;(try clear hb);(try clear hb2);(try clear hk);(try clear hi)))
    go_ret
    exact ⟨by first|rfl|(simp [errW_none,errW_some] <;> rfl)|(simp [*,errW_none,errW_some] <;> rfl),by repeat (first|(with_reducible first|exact HB.out|apply za_|apply zn_|apply zd_|refine zs_ ?_ GE211.out|refine zs_ ?_ GE213.out)|exact HB.out)⟩
   ·rw [if_neg c5] at H
    have c5b0 : (((rd_T70 l0_0 a1).f0) == 1) = false:=beq_eq_false_iff_ne.mpr c5
    have c5b1 : (((rd_T70 l0_0 a1).f0) != 1) = true:=bne_iff_ne.mpr c5
    by_cases c13 : ((rd_T70 l0_0 a1).f0) = 2
    ·rw [if_pos c13] at H
     have c13b0 : (((rd_T70 l0_0 a1).f0) == 2) = true:=beq_iff_eq.mpr c13
     have c13b1 : (((rd_T70 l0_0 a1).f0) != 2) = false:=bne_eq_false_iff_eq.mpr c13
     clear c13
     obtain rfl:=Option.some.inj H
     go_enter Tryd.func46,Tryd.ntmps46
     go_wp2_with (first|((with_reducible refine gate_dst (N:=2) rfl ?_);refine box_event ?hg (N:=2) ?hd (cs:=#[.slice A0_0 l0_0.length c0_0]) (t:=44) ?hr ?_;(case hd => rfl);(case hg => rfl);(case hr => first|(go_simp;done)|(go_simp;rfl));intro gb211 hg w14 hbox hb;have n0_:=zm_ (below_step (by repeat (first|(with_reducible first|exact HB.out|apply za_|apply zn_|apply zd_)|exact HB.out)) hb);have n1_:=zm_ (hbox);have n2_:=zm_ ((by rw [hg];exact (below_size (by repeat (first|(with_reducible first|exact HB.out|apply za_|apply zn_|apply zd_)|exact HB.out))) : w.heap.size ≤ gb211));have n3_:=zm_ ((by rw [hg];exact (below_size (by repeat (first|(with_reducible first|exact HB.out|apply za_|apply zn_|apply zd_)|exact HB.out))) : w.heap.size ≤ gb211));clear HB;have HB:=n0_;have BK211:=n1_;have GW211:=n2_;have GE211:=n3_;clear n0_ n1_ n2_ n3_;clear hb hbox hg;have hcz15_0 : w14.cell? ⟨gb211,0,none⟩ = some (.slice A0_0 l0_0.length c0_0):=(zc_ BK211.out 0).trans rfl;have hfz15_0:=zf_ BK211.out 0;have p212 : 0 ≤ (a1 : Int):=zo_;have q212 : a1 < (l0_0.length : Int):=zo_;obtain ⟨ad212,A212_3,c212_3,e212,hx212_0,hx212_1,hx212_2,hx212_3,hl212_3,hi212_3⟩:=at_T70 HR0_0.out a1 p212 q212;cases e212;replace hx212_0:=(HB.out.cell (zb_ w _ hx212_0)).trans hx212_0;replace hx212_1:=(HB.out.cell (zb_ w _ hx212_1)).trans hx212_1;replace hx212_2:=(HB.out.cell (zb_ w _ hx212_2)).trans hx212_2;replace hx212_3:=(HB.out.cell (zb_ w _ hx212_3)).trans hx212_3;have HR212_3:=zm_ hi212_3;have HC212_3:=zm_ hl212_3;clear hi212_3 hl212_3;replace p212:=eq_true p212;replace q212:=eq_true q212)|((with_reducible refine gate_dst (N:=5) rfl ?_);refine box_event ?hg (N:=5) ?hd (cs:=#[.int .i64 0,.int .i64 0,.string (⟨#[]⟩ : ByteArray),.slice none 0 0]) (t:=70) ?hr ?_;(case hd => rfl);(case hg => rfl);(case hr => first|(go_simp;done)|(go_simp;rfl));intro gb213 hg w16 hbox hb;have n0_:=zm_ (blk_below (g:=gb211) (o:=.cells #[.slice (some ad212) l0_0.length c0_0] 44 (0,0)) (by (with_reducible repeat first|refine zl_ ?_ _|refine zr_ ?_|refine zk_ ?_ _);exact BK211.out) hb);have n1_:=zm_ (below_step (by repeat (first|(with_reducible first|exact HB.out|apply za_|apply zn_|apply zd_|refine zs_ ?_ GE211.out)|exact HB.out)) hb);have n2_:=zm_ (hbox);have n3_:=zm_ ((by rw [hg];exact (below_size (by repeat (first|(with_reducible first|exact HB.out|apply za_|apply zn_|apply zd_|refine zs_ ?_ GE211.out)|exact HB.out))) : w.heap.size ≤ gb213));have n4_:=zm_ ((by rw [hg];exact (below_size (by repeat (first|(with_reducible first|exact HB.out|apply za_|apply zn_|apply zd_|refine zs_ ?_ GE211.out)|exact HB.out))) : w.heap.size ≤ gb213));have n5_:=zm_ ((by rw [hg];exact Nat.ne_of_lt (blk_lt (g:=gb211) (o:=.cells #[.slice (some ad212) l0_0.length c0_0] 44 (0,0)) (by (with_reducible repeat first|refine zl_ ?_ _|refine zr_ ?_|refine zk_ ?_ _);exact BK211.out)) : gb211 ≠ gb213));have n6_:=zm_ ((by rw [hg];exact Nat.ne_of_gt (blk_lt (g:=gb211) (o:=.cells #[.slice (some ad212) l0_0.length c0_0] 44 (0,0)) (by (with_reducible repeat first|refine zl_ ?_ _|refine zr_ ?_|refine zk_ ?_ _);exact BK211.out)) : gb213 ≠ gb211));clear BK211;clear HB;have BK211:=n0_;have HB:=n1_;have BK213:=n2_;have GW213:=n3_;have GE213:=n4_;have NB211_213:=n5_;have NB213_211:=n6_;clear n0_ n1_ n2_ n3_ n4_ n5_ n6_;clear hb hbox hg;have hnb17:=NB213_211.out;have hnc17:=NB211_213.out;have hcz18_0 : w16.cell? ⟨gb213,0,none⟩ = some (.int .i64 0):=(zc_ BK213.out 0).trans rfl;have hcz18_1 : w16.cell? ⟨gb213,1,none⟩ = some (.int .i64 0):=(zc_ BK213.out 1).trans rfl;have hcz18_2 : w16.cell? ⟨gb213,2,none⟩ = some (.string (⟨#[]⟩ : ByteArray)):=(zc_ BK213.out 2).trans rfl;have hcz18_3 : w16.cell? ⟨gb213,3,none⟩ = some (.slice none 0 0):=(zc_ BK213.out 3).trans rfl;have hfz18_0:=zf_ BK213.out 0;have hfz18_1:=zf_ BK213.out 1;have hfz18_2:=zf_ BK213.out 2;have hfz18_3:=zf_ BK213.out 3))
     go_ret
     exact ⟨by first|rfl|(simp [errW_none,errW_some] <;> rfl)|(simp [*,errW_none,errW_some] <;> rfl),by repeat (first|(with_reducible first|exact HB.out|apply za_|apply zn_|apply zd_|refine zs_ ?_ GE211.out|refine zs_ ?_ GE213.out)|exact HB.out)⟩
    ·rw [if_neg c13] at H
     have c13b0 : (((rd_T70 l0_0 a1).f0) == 2) = false:=beq_eq_false_iff_ne.mpr c13
     have c13b1 : (((rd_T70 l0_0 a1).f0) != 2) = true:=bne_iff_ne.mpr c13
     by_cases c19 : ((rd_T70 l0_0 a1).f0) = 3
     ·rw [if_pos c19] at H
      have c19b0 : (((rd_T70 l0_0 a1).f0) == 3) = true:=beq_iff_eq.mpr c19
      have c19b1 : (((rd_T70 l0_0 a1).f0) != 3) = false:=bne_eq_false_iff_eq.mpr c19
      clear c19
      obtain rfl:=Option.some.inj H
      go_enter Tryd.func46,Tryd.ntmps46
      go_wp2_with (first|((with_reducible refine gate_dst (N:=2) rfl ?_);refine box_event ?hg (N:=2) ?hd (cs:=#[.slice A0_0 l0_0.length c0_0]) (t:=44) ?hr ?_;(case hd => rfl);(case hg => rfl);(case hr => first|(go_simp;done)|(go_simp;rfl));intro gb211 hg w20 hbox hb;have n0_:=zm_ (below_step (by repeat (first|(with_reducible first|exact HB.out|apply za_|apply zn_|apply zd_)|exact HB.out)) hb);have n1_:=zm_ (hbox);have n2_:=zm_ ((by rw [hg];exact (below_size (by repeat (first|(with_reducible first|exact HB.out|apply za_|apply zn_|apply zd_)|exact HB.out))) : w.heap.size ≤ gb211));have n3_:=zm_ ((by rw [hg];exact (below_size (by repeat (first|(with_reducible first|exact HB.out|apply za_|apply zn_|apply zd_)|exact HB.out))) : w.heap.size ≤ gb211));clear HB;have HB:=n0_;have BK211:=n1_;have GW211:=n2_;have GE211:=n3_;clear n0_ n1_ n2_ n3_;clear hb hbox hg;have hcz21_0 : w20.cell? ⟨gb211,0,none⟩ = some (.slice A0_0 l0_0.length c0_0):=(zc_ BK211.out 0).trans rfl;have hfz21_0:=zf_ BK211.out 0;have p212 : 0 ≤ (a1 : Int):=zo_;have q212 : a1 < (l0_0.length : Int):=zo_;obtain ⟨ad212,A212_3,c212_3,e212,hx212_0,hx212_1,hx212_2,hx212_3,hl212_3,hi212_3⟩:=at_T70 HR0_0.out a1 p212 q212;cases e212;replace hx212_0:=(HB.out.cell (zb_ w _ hx212_0)).trans hx212_0;replace hx212_1:=(HB.out.cell (zb_ w _ hx212_1)).trans hx212_1;replace hx212_2:=(HB.out.cell (zb_ w _ hx212_2)).trans hx212_2;replace hx212_3:=(HB.out.cell (zb_ w _ hx212_3)).trans hx212_3;have HR212_3:=zm_ hi212_3;have HC212_3:=zm_ hl212_3;clear hi212_3 hl212_3;replace p212:=eq_true p212;replace q212:=eq_true q212)|((with_reducible refine gate_dst (N:=5) rfl ?_);refine box_event ?hg (N:=5) ?hd (cs:=#[.int .i64 0,.int .i64 0,.string (⟨#[]⟩ : ByteArray),.slice none 0 0]) (t:=70) ?hr ?_;(case hd => rfl);(case hg => rfl);(case hr => first|(go_simp;done)|(go_simp;rfl));intro gb213 hg w22 hbox hb;have n0_:=zm_ (blk_below (g:=gb211) (o:=.cells #[.slice (some ad212) l0_0.length c0_0] 44 (0,0)) (by (with_reducible repeat first|refine zl_ ?_ _|refine zr_ ?_|refine zk_ ?_ _);exact BK211.out) hb);have n1_:=zm_ (below_step (by repeat (first|(with_reducible first|exact HB.out|apply za_|apply zn_|apply zd_|refine zs_ ?_ GE211.out)|exact HB.out)) hb);have n2_:=zm_ (hbox);have n3_:=zm_ ((by rw [hg];exact (below_size (by repeat (first|(with_reducible first|exact HB.out|apply za_|apply zn_|apply zd_|refine zs_ ?_ GE211.out)|exact HB.out))) : w.heap.size ≤ gb213));have n4_:=zm_ ((by rw [hg];exact (below_size (by repeat (first|(with_reducible first|exact HB.out|apply za_|apply zn_|apply zd_|refine zs_ ?_ GE211.out)|exact HB.out))) : w.heap.size ≤ gb213));have n5_:=zm_ ((by rw [hg];exact Nat.ne_of_lt (blk_lt (g:=gb211) (o:=.cells #[.slice (some ad212) l0_0.length c0_0] 44 (0,0)) (by (with_reducible repeat first|refine zl_ ?_ _|refine zr_ ?_|refine zk_ ?_ _);exact BK211.out)) : gb211 ≠ gb213));have n6_:=zm_ ((by rw [hg];exact Nat.ne_of_gt (blk_lt (g:=gb211) (o:=.cells #[.slice (some ad212) l0_0.length c0_0] 44 (0,0)) (by (with_reducible repeat first|refine zl_ ?_ _|refine zr_ ?_|refine zk_ ?_ _);exact BK211.out)) : gb213 ≠ gb211));clear BK211;clear HB;have BK211:=n0_;have HB:=n1_;have BK213:=n2_;have GW213:=n3_;have GE213:=n4_;have NB211_213:=n5_;have NB213_211:=n6_;clear n0_ n1_ n2_ n3_ n4_ n5_ n6_;clear hb hbox hg;have hnb23:=NB213_211.out;have hnc23:=NB211_213.out;have hcz24_0 : w22.cell? ⟨gb213,0,none⟩ = some (.int .i64 0):=(zc_ BK213.out 0).trans rfl;have hcz24_1 : w22.cell? ⟨gb213,1,none⟩ = some (.int .i64 0):=(zc_ BK213.out 1).trans rfl;have hcz24_2 : w22.cell? ⟨gb213,2,none⟩ = some (.string (⟨#[]⟩ : ByteArray)):=(zc_ BK213.out 2).trans rfl;have hcz24_3 : w22.cell? ⟨gb213,3,none⟩ = some (.slice none 0 0):=(zc_ BK213.out 3).trans rfl;have hfz24_0:=zf_ BK213.out 0;have hfz24_1:=zf_ BK213.out 1;have hfz24_2:=zf_ BK213.out 2;have hfz24_3:=zf_ BK213.out 3))
      go_ret
      exact ⟨by first|rfl|(simp [errW_none,errW_some] <;> rfl)|(simp [*,errW_none,errW_some] <;> rfl),by repeat (first|(with_reducible first|exact HB.out|apply za_|apply zn_|apply zd_|refine zs_ ?_ GE211.out|refine zs_ ?_ GE213.out)|exact HB.out)⟩
     ·rw [if_neg c19] at H
      have c19b0 : (((rd_T70 l0_0 a1).f0) == 3) = false:=beq_eq_false_iff_ne.mpr c19
      have c19b1 : (((rd_T70 l0_0 a1).f0) != 3) = true:=bne_iff_ne.mpr c19
      by_cases c25 : ((rd_T70 l0_0 a1).f0) = 11
      ·rw [if_pos c25] at H
       have c25b0 : (((rd_T70 l0_0 a1).f0) == 11) = true:=beq_iff_eq.mpr c25
       have c25b1 : (((rd_T70 l0_0 a1).f0) != 11) = false:=bne_eq_false_iff_eq.mpr c25
       clear c25
       by_cases c26 : 0 < (((rd_T70 l0_0 a1).f3).length : Int)
       ·rw [if_pos c26] at H
        have c26b0 : decide (0 < (((rd_T70 l0_0 a1).f3).length : Int)) = true:=decide_eq_true c26
        have c26b1 : decide (0 < ((rd_T70 l0_0 a1).f3).length) = true:=decide_eq_true (by omega)
        clear c26
        replace H:=Option.bind_eq_some_iff.mp H
        obtain ⟨t216,A270,H⟩:=H
        replace H : (if 1 + t216.size ≤ 9223372036854775807 then (some ((⟨#[33]⟩ : ByteArray) ++ t216)) else (none)) = some r:=H
        have A27:=zm_ A270
        clear A270
        by_cases c28 : 1 + t216.size ≤ 9223372036854775807
        ·rw [if_pos c28] at H
         have c28b0:=eq_true c28
         have c28b1 : decide (1 + t216.size ≤ 9223372036854775807) = true:=decide_eq_true c28
         try have c28b2 : (9223372036854775807 < 1 + t216.size) = False:=eq_false (Nat.not_lt.2 c28)
         obtain rfl:=Option.some.inj H
         go_enter Tryd.func46,Tryd.ntmps46
         try go_wp2_with (first|((with_reducible refine gate_dst (N:=2) rfl ?_);refine box_event ?hg (N:=2) ?hd (cs:=#[.slice A0_0 l0_0.length c0_0]) (t:=44) ?hr ?_;(case hd => rfl);(case hg => rfl);(case hr => first|(go_simp;done)|(go_simp;rfl));intro gb211 hg w29 hbox hb;have n0_:=zm_ (below_step (by repeat (first|(with_reducible first|exact HB.out|apply za_|apply zn_|apply zd_)|exact HB.out)) hb);have n1_:=zm_ (hbox);have n2_:=zm_ ((by rw [hg];exact (below_size (by repeat (first|(with_reducible first|exact HB.out|apply za_|apply zn_|apply zd_)|exact HB.out))) : w.heap.size ≤ gb211));have n3_:=zm_ ((by rw [hg];exact (below_size (by repeat (first|(with_reducible first|exact HB.out|apply za_|apply zn_|apply zd_)|exact HB.out))) : w.heap.size ≤ gb211));clear HB;have HB:=n0_;have BK211:=n1_;have GW211:=n2_;have GE211:=n3_;clear n0_ n1_ n2_ n3_;clear hb hbox hg;have hcz30_0 : w29.cell? ⟨gb211,0,none⟩ = some (.slice A0_0 l0_0.length c0_0):=(zc_ BK211.out 0).trans rfl;have hfz30_0:=zf_ BK211.out 0;have p212 : 0 ≤ (a1 : Int):=zo_;have q212 : a1 < (l0_0.length : Int):=zo_;obtain ⟨ad212,A212_3,c212_3,e212,hx212_0,hx212_1,hx212_2,hx212_3,hl212_3,hi212_3⟩:=at_T70 HR0_0.out a1 p212 q212;cases e212;replace hx212_0:=(HB.out.cell (zb_ w _ hx212_0)).trans hx212_0;replace hx212_1:=(HB.out.cell (zb_ w _ hx212_1)).trans hx212_1;replace hx212_2:=(HB.out.cell (zb_ w _ hx212_2)).trans hx212_2;replace hx212_3:=(HB.out.cell (zb_ w _ hx212_3)).trans hx212_3;have HR212_3:=zm_ hi212_3;have HC212_3:=zm_ hl212_3;clear hi212_3 hl212_3;replace p212:=eq_true p212;replace q212:=eq_true q212)|((with_reducible refine gate_dst (N:=5) rfl ?_);refine box_event ?hg (N:=5) ?hd (cs:=#[.int .i64 0,.int .i64 0,.string (⟨#[]⟩ : ByteArray),.slice none 0 0]) (t:=70) ?hr ?_;(case hd => rfl);(case hg => rfl);(case hr => first|(go_simp;done)|(go_simp;rfl));intro gb213 hg w31 hbox hb;have n0_:=zm_ (blk_below (g:=gb211) (o:=.cells #[.slice (some ad212) l0_0.length c0_0] 44 (0,0)) (by (with_reducible repeat first|refine zl_ ?_ _|refine zr_ ?_|refine zk_ ?_ _);exact BK211.out) hb);have n1_:=zm_ (below_step (by repeat (first|(with_reducible first|exact HB.out|apply za_|apply zn_|apply zd_|refine zs_ ?_ GE211.out)|exact HB.out)) hb);have n2_:=zm_ (hbox);have n3_:=zm_ ((by rw [hg];exact (below_size (by repeat (first|(with_reducible first|exact HB.out|apply za_|apply zn_|apply zd_|refine zs_ ?_ GE211.out)|exact HB.out))) : w.heap.size ≤ gb213));have n4_:=zm_ ((by rw [hg];exact (below_size (by repeat (first|(with_reducible first|exact HB.out|apply za_|apply zn_|apply zd_|refine zs_ ?_ GE211.out)|exact HB.out))) : w.heap.size ≤ gb213));have n5_:=zm_ ((by rw [hg];exact Nat.ne_of_lt (blk_lt (g:=gb211) (o:=.cells #[.slice (some ad212) l0_0.length c0_0] 44 (0,0)) (by (with_reducible repeat first|refine zl_ ?_ _|refine zr_ ?_|refine zk_ ?_ _);exact BK211.out)) : gb211 ≠ gb213));have n6_:=zm_ ((by rw [hg];exact Nat.ne_of_gt (blk_lt (g:=gb211) (o:=.cells #[.slice (some ad212) l0_0.length c0_0] 44 (0,0)) (by (with_reducible repeat first|refine zl_ ?_ _|refine zr_ ?_|refine zk_ ?_ _);exact BK211.out)) : gb213 ≠ gb211));clear BK211;clear HB;have BK211:=n0_;have HB:=n1_;have BK213:=n2_;have GW213:=n3_;have GE213:=n4_;have NB211_213:=n5_;have NB213_211:=n6_;clear n0_ n1_ n2_ n3_ n4_ n5_ n6_;clear hb hbox hg;have hnb32:=NB213_211.out;have hnc32:=NB211_213.out;have hcz33_0 : w31.cell? ⟨gb213,0,none⟩ = some (.int .i64 0):=(zc_ BK213.out 0).trans rfl;have hcz33_1 : w31.cell? ⟨gb213,1,none⟩ = some (.int .i64 0):=(zc_ BK213.out 1).trans rfl;have hcz33_2 : w31.cell? ⟨gb213,2,none⟩ = some (.string (⟨#[]⟩ : ByteArray)):=(zc_ BK213.out 2).trans rfl;have hcz33_3 : w31.cell? ⟨gb213,3,none⟩ = some (.slice none 0 0):=(zc_ BK213.out 3).trans rfl;have hfz33_0:=zf_ BK213.out 0;have hfz33_1:=zf_ BK213.out 1;have hfz33_2:=zf_ BK213.out 2;have hfz33_3:=zf_ BK213.out 3))
         have n0_ : Aside0 (((((w31.setCell ⟨gb213,0,none⟩ (.int .i64 ((rd_T70 l0_0 a1).f0))).setCell ⟨gb213,1,none⟩ (.int .i64 ((rd_T70 l0_0 a1).f1))).setCell ⟨gb213,2,none⟩ (.string ((rd_T70 l0_0 a1).f2))).setCell ⟨gb213,3,none⟩ (.slice A212_3 ((rd_T70 l0_0 a1).f3).length c212_3)).heap[gb211]? = some (.cells #[.slice (some ad212) l0_0.length c0_0] 44 (0,0))):=⟨by (with_reducible repeat first|refine zl_ ?_ _|refine zr_ ?_|refine zk_ ?_ _);refine blk_far ?_ NB211_213.out _;(with_reducible repeat first|refine zl_ ?_ _|refine zr_ ?_|refine zk_ ?_ _);refine blk_far ?_ NB211_213.out _;(with_reducible repeat first|refine zl_ ?_ _|refine zr_ ?_|refine zk_ ?_ _);refine blk_far ?_ NB211_213.out _;(with_reducible repeat first|refine zl_ ?_ _|refine zr_ ?_|refine zk_ ?_ _);refine blk_far ?_ NB211_213.out _;(with_reducible repeat first|refine zl_ ?_ _|refine zr_ ?_|refine zk_ ?_ _);exact BK211.out⟩
         have n1_ : Aside0 (((((w31.setCell ⟨gb213,0,none⟩ (.int .i64 ((rd_T70 l0_0 a1).f0))).setCell ⟨gb213,1,none⟩ (.int .i64 ((rd_T70 l0_0 a1).f1))).setCell ⟨gb213,2,none⟩ (.string ((rd_T70 l0_0 a1).f2))).setCell ⟨gb213,3,none⟩ (.slice A212_3 ((rd_T70 l0_0 a1).f3).length c212_3)).heap[gb213]? = some (.cells #[.int .i64 ((rd_T70 l0_0 a1).f0),.int .i64 ((rd_T70 l0_0 a1).f1),.string ((rd_T70 l0_0 a1).f2),.slice A212_3 ((rd_T70 l0_0 a1).f3).length c212_3] 70 (0,0))):=⟨by (with_reducible repeat first|refine zl_ ?_ _|refine zr_ ?_|refine zk_ ?_ _);refine blk_put (cs:=#[.int .i64 ((rd_T70 l0_0 a1).f0),.int .i64 ((rd_T70 l0_0 a1).f1),.string ((rd_T70 l0_0 a1).f2),.slice none 0 0]) ?_ 3 _ rfl;(with_reducible repeat first|refine zl_ ?_ _|refine zr_ ?_|refine zk_ ?_ _);refine blk_put (cs:=#[.int .i64 ((rd_T70 l0_0 a1).f0),.int .i64 ((rd_T70 l0_0 a1).f1),.string (⟨#[]⟩ : ByteArray),.slice none 0 0]) ?_ 2 _ rfl;(with_reducible repeat first|refine zl_ ?_ _|refine zr_ ?_|refine zk_ ?_ _);refine blk_put (cs:=#[.int .i64 ((rd_T70 l0_0 a1).f0),.int .i64 0,.string (⟨#[]⟩ : ByteArray),.slice none 0 0]) ?_ 1 _ rfl;(with_reducible repeat first|refine zl_ ?_ _|refine zr_ ?_|refine zk_ ?_ _);refine blk_put (cs:=#[.int .i64 0,.int .i64 0,.string (⟨#[]⟩ : ByteArray),.slice none 0 0]) ?_ 0 _ rfl;(with_reducible repeat first|refine zl_ ?_ _|refine zr_ ?_|refine zk_ ?_ _);exact BK213.out⟩
         have n2_ : Aside0 (Below w.heap.size w ((((w31.setCell ⟨gb213,0,none⟩ (.int .i64 ((rd_T70 l0_0 a1).f0))).setCell ⟨gb213,1,none⟩ (.int .i64 ((rd_T70 l0_0 a1).f1))).setCell ⟨gb213,2,none⟩ (.string ((rd_T70 l0_0 a1).f2))).setCell ⟨gb213,3,none⟩ (.slice A212_3 ((rd_T70 l0_0 a1).f3).length c212_3))):=⟨by repeat (first|(with_reducible first|exact HB.out|apply za_|apply zn_|apply zd_|refine zs_ ?_ GE211.out|refine zs_ ?_ GE213.out)|exact HB.out)⟩
         (try clear BK211)
         (try clear BK213)
         (try clear HB)
         generalize ((((w31.setCell ⟨gb213,0,none⟩ (.int .i64 ((rd_T70 l0_0 a1).f0))).setCell ⟨gb213,1,none⟩ (.int .i64 ((rd_T70 l0_0 a1).f1))).setCell ⟨gb213,2,none⟩ (.string ((rd_T70 l0_0 a1).f2))).setCell ⟨gb213,3,none⟩ (.slice A212_3 ((rd_T70 l0_0 a1).f3).length c212_3)) = w34 at n0_ n1_ n2_ ⊢
         have BK211:=n0_
         have BK213:=n1_
         have HB:=n2_
         clear n0_ n1_ n2_
         have n0_:=zm_ (zr_ BK211.out)
         have n1_:=zm_ (zr_ BK213.out)
         have n2_:=zm_ (zd_ HB.out)
         clear BK211
         clear BK213
         clear HB
         have BK211:=n0_
         have BK213:=n1_
         have HB:=n2_
         clear n0_ n1_ n2_
         have p215 : 0 ≤ (0 : Int):=(by omega)
         have q215 : 0 < (((rd_T70 l0_0 a1).f3).length : Int):=zo_
         obtain ⟨ad215,e215,hx215_0⟩:=Kd.at_int HR212_3.out 0 p215 q215
         have hw215_0:=hx215_0
         (try rw [show ((0 : Int)).toNat = 0 from rfl] at hw215_0)
         (try rw [show 0 * 1 = 0 from rfl] at hw215_0)
         (try rw [Addr.add_zero'] at hw215_0)
         cases e215
         have qi215 : (0 < ((rd_T70 l0_0 a1).f3).length) = True:=eq_true (by omega)
         (try rw [show ((0 : Int)).toNat = 0 from rfl] at hx215_0)
         (try rw [Addr.add_zero'] at hx215_0)
         replace hx215_0:=(HB.out.cell (zb_ w _ hx215_0)).trans hx215_0
         replace p215:=eq_true p215
         replace q215:=eq_true q215
         refine start_ (n:=8) (S:=fun w' => w'.cell? ⟨gb211,0,none⟩ = some (.slice (some ad212) l0_0.length c0_0) ∧ w'.cell? ⟨gb213,0,none⟩ = some (.int .i64 ((rd_T70 l0_0 a1).f0)) ∧ w'.cell? ⟨gb213,1,none⟩ = some (.int .i64 ((rd_T70 l0_0 a1).f1)) ∧ w'.cell? ⟨gb213,2,none⟩ = some (.string ((rd_T70 l0_0 a1).f2)) ∧ w'.cell? ⟨gb213,3,none⟩ = some (.slice (some ad215) ((rd_T70 l0_0 a1).f3).length c212_3) ∧ w'.cell? ad215 = some (.int .i64 (rd ((rd_T70 l0_0 a1).f3) 0))) (ds:=[]) #[false,false,false,false,false,false,false,false] (by kernel_rfl) rfl rfl ⟨(zc_ BK211.out 0).trans rfl,(zc_ BK213.out 0).trans rfl,(zc_ BK213.out 1).trans rfl,(zc_ BK213.out 2).trans rfl,(zc_ BK213.out 3).trans rfl,((HB.out.cell (zb_ w _ hw215_0)).trans hw215_0)⟩ (fun hHeld => ?_);refine with_tabW impl_showNode.tab10 impl_showNode.bits10 (fun HT_ HW_ => ?_)
         generalize w34.drew = w35 at BK211 BK213 HB hx215_0 hHeld ⊢
         refine pure_ (i:=1) (N:=some 28) (v:=?_) (a':=?_) #[false,true,false,false,false,false,false,false] rfl rfl (any_of HT_.out (by kernel_rfl)) (fun _ _ _ h => h) (Or.inl ⟨by rfl,?_⟩) ?_ ?_
         rotate_left
         ·intro w'
          go_simp
          with_reducible rfl
         rotate_left
         ·simp only [Act.put,List.setIfInBounds_toArray,List.set_cons_zero,List.set_cons_succ,i64_w,i32_w,IntKind.wrap_u8]
          rfl
         refine take_ (i:=0) (N:=some 27) (v:=?_) (a':=?_) #[true,true,false,false,false,false,false,false] rfl rfl (take_ofW HT_.out HW_.out (by kernel_rfl)) (fun _ _ _ h => h) (Or.inl ⟨by rfl,?_⟩) hHeld ?_ ?_
         rotate_left
         ·rintro w' ⟨s0,s1,s2,s3,s4,s5⟩
          go_simp
          with_reducible rfl
         rotate_left
         ·simp only [Act.put,List.setIfInBounds_toArray,List.set_cons_zero,List.set_cons_succ,i64_w,i32_w,IntKind.wrap_u8]
          rfl
         refine take_ (i:=2) (N:=some 29) (v:=?_) (a':=?_) #[true,true,true,false,false,false,false,false] rfl rfl (take_ofW HT_.out HW_.out (by kernel_rfl)) (fun _ _ _ h => h) (Or.inl ⟨by rfl,?_⟩) hHeld ?_ ?_
         rotate_left
         ·rintro w' ⟨s0,s1,s2,s3,s4,s5⟩
          go_simp
          with_reducible rfl
         rotate_left
         ·simp only [Act.put,List.setIfInBounds_toArray,List.set_cons_zero,List.set_cons_succ,i64_w,i32_w,IntKind.wrap_u8]
          rfl
         refine pure_ (i:=3) (N:=some 30) (v:=?_) (a':=?_) #[true,true,true,true,false,false,false,false] rfl rfl (any_of HT_.out (by kernel_rfl)) (fun _ _ _ h => h) (Or.inl ⟨by rfl,?_⟩) ?_ ?_
         rotate_left
         ·intro w'
          go_simp
          with_reducible rfl
         rotate_left
         ·simp only [Act.put,List.setIfInBounds_toArray,List.set_cons_zero,List.set_cons_succ,i64_w,i32_w,IntKind.wrap_u8]
          rfl
         refine take_ (i:=4) (N:=some 31) (v:=?_) (a':=?_) #[true,true,true,true,true,false,false,false] rfl rfl (take_ofW HT_.out HW_.out (by kernel_rfl)) (fun _ _ _ h => h) (Or.inl ⟨by rfl,?_⟩) hHeld ?_ ?_
         rotate_left
         ·rintro w' ⟨s0,s1,s2,s3,s4,s5⟩
          go_simp
          with_reducible rfl
         rotate_left
         ·simp only [Act.put,List.setIfInBounds_toArray,List.set_cons_zero,List.set_cons_succ,i64_w,i32_w,IntKind.wrap_u8]
          rfl
         refine one_ (i:=5) (N:=some 32) #[true,true,true,true,true,true,false,false] rfl rfl (one_of HT_.out (by kernel_rfl)) (by decide) (fun K hK => ?_)
         refine goes_ Tryd.func46 (by kernel_rfl) rfl #[.agg #[.slice (some ad212) l0_0.length c0_0],.int .i64 (rd ((rd_T70 l0_0 a1).f3) 0)] (by rfl) rfl rfl (by (try simp only [List.map_toArray,List.map_cons,List.map_nil]);first|done|rfl|(simp only [List.length_drop,List.length_take];rfl)) ?_
         with_reducible refine (ih k (by omega) _ _ l0_0 (rd ((rd_T70 l0_0 a1).f3) 0) t216 _ ?side1 ?side2 (Tb.below HTAB.out (by repeat (first|(with_reducible first|exact HB.out|apply za_|apply zn_|apply zd_|refine zs_ ?_ GE211.out|refine zs_ ?_ GE213.out)|exact HB.out))) A27.out).mono ?_
         (case side1 => repeat (first|exact (Kd.C_below HR0_0.out HB.out)|(with_reducible refine Kd.C_alloc ?_ _)|(with_reducible refine Kd.C_drewN ?_ _)|(with_reducible refine Kd.C_drew ?_)))
         (case side2 => exact HC0_0.out)
         rintro e w36 ⟨rfl,hb⟩
         refine ⟨_,rfl,?_⟩
         have n0_:=zm_ (blk_below (g:=gb211) (o:=.cells #[.slice (some ad212) l0_0.length c0_0] 44 (0,0)) (by (with_reducible repeat first|refine zl_ ?_ _|refine zr_ ?_|refine zk_ ?_ _);exact BK211.out) hb)
         have n1_:=zm_ (blk_below (g:=gb213) (o:=.cells #[.int .i64 ((rd_T70 l0_0 a1).f0),.int .i64 ((rd_T70 l0_0 a1).f1),.string ((rd_T70 l0_0 a1).f2),.slice (some ad215) ((rd_T70 l0_0 a1).f3).length c212_3] 70 (0,0)) (by (with_reducible repeat first|refine zl_ ?_ _|refine zr_ ?_|refine zk_ ?_ _);exact BK213.out) hb)
         have n2_:=zm_ (below_step (by repeat (first|(with_reducible first|exact HB.out|apply za_|apply zn_|apply zd_|refine zs_ ?_ GE211.out|refine zs_ ?_ GE213.out)|exact HB.out)) hb)
         clear BK211
         clear BK213
         clear HB
         have BK211:=n0_
         have BK213:=n1_
         have HB:=n2_
         clear n0_ n1_ n2_
         (try clear hb)
         (try clear hb2)
         (try clear hk)
         (try clear hi)
         refine hK.out _ _ ⟨(zc_ BK211.out 0).trans rfl,(zc_ BK213.out 0).trans rfl,(zc_ BK213.out 1).trans rfl,(zc_ BK213.out 2).trans rfl,(zc_ BK213.out 3).trans rfl,((HB.out.cell (zb_ w _ hw215_0)).trans hw215_0)⟩ (fun hHeld => ?_)
         clear hK K
         refine norm_ (a':=?_) ?_ ?_
         rotate_left
         ·show Act.put _ (some 32) _ = _
          simp only [Act.put,List.setIfInBounds_toArray,List.set_cons_zero,List.set_cons_succ,i64_w,i32_w,IntKind.wrap_u8]
          rfl
         refine pure_ (i:=6) (N:=some 33) (v:=?_) (a':=?_) #[true,true,true,true,true,true,true,false] rfl rfl (any_of HT_.out (by kernel_rfl)) (fun _ _ _ h => h) (Or.inl ⟨by rfl,?_⟩) ?_ ?_
         rotate_left
         ·intro w'
          go_simp
          with_reducible rfl
         rotate_left
         ·simp only [Act.put,List.setIfInBounds_toArray,List.set_cons_zero,List.set_cons_succ,i64_w,i32_w,IntKind.wrap_u8]
          rfl
         refine pure_ (i:=7) (N:=some 4) (v:=?_) (a':=?_) #[true,true,true,true,true,true,true,true] rfl rfl (any_of HT_.out (by kernel_rfl)) (fun _ _ _ h => h) (Or.inl ⟨by rfl,?_⟩) ?_ ?_
         rotate_left
         ·intro w'
          go_simp
          with_reducible rfl
         rotate_left
         ·simp only [Act.put,List.setIfInBounds_toArray,List.set_cons_zero,List.set_cons_succ,i64_w,i32_w,IntKind.wrap_u8]
          rfl
         refine done_ (done_of HT_.out (by kernel_rfl)) ?_
         try go_wp2
         go_ret
         exact ⟨by first|rfl|(simp [errW_none,errW_some] <;> rfl)|(simp [*,errW_none,errW_some] <;> rfl),by repeat (first|(with_reducible first|exact HB.out|apply za_|apply zn_|apply zd_|refine zs_ ?_ GE211.out|refine zs_ ?_ GE213.out)|exact HB.out)⟩
        ·rw [if_neg c28] at H
         exact absurd H (by simp)
       ·rw [if_neg c26] at H
        exact absurd H (by simp)
      ·rw [if_neg c25] at H
       have c25b0 : (((rd_T70 l0_0 a1).f0) == 11) = false:=beq_eq_false_iff_ne.mpr c25
       have c25b1 : (((rd_T70 l0_0 a1).f0) != 11) = true:=bne_iff_ne.mpr c25
       obtain ⟨ji37,hji37⟩ : ∃ j_ : Int,(wrap64 (((rd_T70 l0_0 a1).f0) - 4)) = j_:=⟨_,rfl⟩
       replace H : (if 0 ≤ (ji37) then (if (ji37) ≤ (wrap64 ((ji37) + 1)) then (if (wrap64 ((ji37) + 1)) ≤ 7 then (if 0 < (((rd_T70 l0_0 a1).f3).length : Int) then ((impl_showNode.f k l0_0 (rd ((rd_T70 l0_0 a1).f3) 0)).bind fun t218 => (if 1 + t218.size ≤ 9223372036854775807 then (if ((⟨#[40]⟩ : ByteArray) ++ t218).size + 1 ≤ 9223372036854775807 then (if (((⟨#[40]⟩ : ByteArray) ++ t218) ++ (⟨#[32]⟩ : ByteArray)).size + ((⟨#[43,45,42,47,60,61,38]⟩ : ByteArray).extract ((ji37) : Int).toNat ((wrap64 ((ji37) + 1)) : Int).toNat).size ≤ 9223372036854775807 then (if ((((⟨#[40]⟩ : ByteArray) ++ t218) ++ (⟨#[32]⟩ : ByteArray)) ++ ((⟨#[43,45,42,47,60,61,38]⟩ : ByteArray).extract ((ji37) : Int).toNat ((wrap64 ((ji37) + 1)) : Int).toNat)).size + 1 ≤ 9223372036854775807 then (if 1 < (((rd_T70 l0_0 a1).f3).length : Int) then ((impl_showNode.f k l0_0 (rd ((rd_T70 l0_0 a1).f3) 1)).bind fun t220 => (if (((((⟨#[40]⟩ : ByteArray) ++ t218) ++ (⟨#[32]⟩ : ByteArray)) ++ ((⟨#[43,45,42,47,60,61,38]⟩ : ByteArray).extract ((ji37) : Int).toNat ((wrap64 ((ji37) + 1)) : Int).toNat)) ++ (⟨#[32]⟩ : ByteArray)).size + t220.size ≤ 9223372036854775807 then (if ((((((⟨#[40]⟩ : ByteArray) ++ t218) ++ (⟨#[32]⟩ : ByteArray)) ++ ((⟨#[43,45,42,47,60,61,38]⟩ : ByteArray).extract ((ji37) : Int).toNat ((wrap64 ((ji37) + 1)) : Int).toNat)) ++ (⟨#[32]⟩ : ByteArray)) ++ t220).size + 1 ≤ 9223372036854775807 then (some (((((((⟨#[40]⟩ : ByteArray) ++ t218) ++ (⟨#[32]⟩ : ByteArray)) ++ ((⟨#[43,45,42,47,60,61,38]⟩ : ByteArray).extract ((ji37) : Int).toNat ((wrap64 ((ji37) + 1)) : Int).toNat)) ++ (⟨#[32]⟩ : ByteArray)) ++ t220) ++ (⟨#[41]⟩ : ByteArray))) else (none)) else (none))) else (none)) else (none)) else (none)) else (none)) else (none))) else (none)) else (none)) else (none)) else (none)) = some r:=by first|(rw [hji37] at H;exact H)|(simp only [hji37] at H ⊢;exact H)
       have hji37w : (IntKind.i64.wrap (((rd_T70 l0_0 a1).f0) - 4)) = ji37:=(i64_w _).trans hji37
       by_cases c38 : 0 ≤ (ji37)
       ·rw [if_pos c38] at H
        have c38b0:=eq_true c38
        have c38b1 : decide (0 ≤ (ji37)) = true:=decide_eq_true c38
        clear c38
        by_cases c39 : (ji37) ≤ (wrap64 ((ji37) + 1))
        ·rw [if_pos c39] at H
         have c39b0:=eq_true c39
         have c39b1 : decide ((ji37) ≤ (wrap64 ((ji37) + 1))) = true:=decide_eq_true c39
         by_cases c40 : (wrap64 ((ji37) + 1)) ≤ 7
         ·rw [if_pos c40] at H
          have c40b0:=eq_true c40
          have c40b1 : decide ((wrap64 ((ji37) + 1)) ≤ 7) = true:=decide_eq_true c40
          by_cases c41 : 0 < (((rd_T70 l0_0 a1).f3).length : Int)
          ·rw [if_pos c41] at H
           have c41b0 : decide (0 < (((rd_T70 l0_0 a1).f3).length : Int)) = true:=decide_eq_true c41
           have c41b1 : decide (0 < ((rd_T70 l0_0 a1).f3).length) = true:=decide_eq_true (by omega)
           clear c41
           replace H:=Option.bind_eq_some_iff.mp H
           obtain ⟨t218,A420,H⟩:=H
           replace H : (if 1 + t218.size ≤ 9223372036854775807 then (if ((⟨#[40]⟩ : ByteArray) ++ t218).size + 1 ≤ 9223372036854775807 then (if (((⟨#[40]⟩ : ByteArray) ++ t218) ++ (⟨#[32]⟩ : ByteArray)).size + ((⟨#[43,45,42,47,60,61,38]⟩ : ByteArray).extract ((ji37) : Int).toNat ((wrap64 ((ji37) + 1)) : Int).toNat).size ≤ 9223372036854775807 then (if ((((⟨#[40]⟩ : ByteArray) ++ t218) ++ (⟨#[32]⟩ : ByteArray)) ++ ((⟨#[43,45,42,47,60,61,38]⟩ : ByteArray).extract ((ji37) : Int).toNat ((wrap64 ((ji37) + 1)) : Int).toNat)).size + 1 ≤ 9223372036854775807 then (if 1 < (((rd_T70 l0_0 a1).f3).length : Int) then ((impl_showNode.f k l0_0 (rd ((rd_T70 l0_0 a1).f3) 1)).bind fun t220 => (if (((((⟨#[40]⟩ : ByteArray) ++ t218) ++ (⟨#[32]⟩ : ByteArray)) ++ ((⟨#[43,45,42,47,60,61,38]⟩ : ByteArray).extract ((ji37) : Int).toNat ((wrap64 ((ji37) + 1)) : Int).toNat)) ++ (⟨#[32]⟩ : ByteArray)).size + t220.size ≤ 9223372036854775807 then (if ((((((⟨#[40]⟩ : ByteArray) ++ t218) ++ (⟨#[32]⟩ : ByteArray)) ++ ((⟨#[43,45,42,47,60,61,38]⟩ : ByteArray).extract ((ji37) : Int).toNat ((wrap64 ((ji37) + 1)) : Int).toNat)) ++ (⟨#[32]⟩ : ByteArray)) ++ t220).size + 1 ≤ 9223372036854775807 then (some (((((((⟨#[40]⟩ : ByteArray) ++ t218) ++ (⟨#[32]⟩ : ByteArray)) ++ ((⟨#[43,45,42,47,60,61,38]⟩ : ByteArray).extract ((ji37) : Int).toNat ((wrap64 ((ji37) + 1)) : Int).toNat)) ++ (⟨#[32]⟩ : ByteArray)) ++ t220) ++ (⟨#[41]⟩ : ByteArray))) else (none)) else (none))) else (none)) else (none)) else (none)) else (none)) else (none)) = some r:=H
           have A42:=zm_ A420
           clear A420
           by_cases c43 : 1 + t218.size ≤ 9223372036854775807
           ·rw [if_pos c43] at H
            have c43b0:=eq_true c43
            have c43b1 : decide (1 + t218.size ≤ 9223372036854775807) = true:=decide_eq_true c43
            try have c43b2 : (9223372036854775807 < 1 + t218.size) = False:=eq_false (Nat.not_lt.2 c43)
            by_cases c44 : ((⟨#[40]⟩ : ByteArray) ++ t218).size + 1 ≤ 9223372036854775807
            ·rw [if_pos c44] at H
             have c44b0:=eq_true c44
             have c44b1 : decide (((⟨#[40]⟩ : ByteArray) ++ t218).size + 1 ≤ 9223372036854775807) = true:=decide_eq_true c44
             try have c44b2 : (9223372036854775807 < ((⟨#[40]⟩ : ByteArray) ++ t218).size + 1) = False:=eq_false (Nat.not_lt.2 c44)
             try have c44b3 : (9223372036854775807 < 1 + t218.size + 1) = False:=eq_false (Nat.not_lt.2 (by have h_:=c44;simp only [ByteArray.size_append] at h_;exact h_))
             by_cases c45 : (((⟨#[40]⟩ : ByteArray) ++ t218) ++ (⟨#[32]⟩ : ByteArray)).size + ((⟨#[43,45,42,47,60,61,38]⟩ : ByteArray).extract ((ji37) : Int).toNat ((wrap64 ((ji37) + 1)) : Int).toNat).size ≤ 9223372036854775807
             ·rw [if_pos c45] at H
              have c45b0:=eq_true c45
              have c45b1 : decide ((((⟨#[40]⟩ : ByteArray) ++ t218) ++ (⟨#[32]⟩ : ByteArray)).size + ((⟨#[43,45,42,47,60,61,38]⟩ : ByteArray).extract ((ji37) : Int).toNat ((wrap64 ((ji37) + 1)) : Int).toNat).size ≤ 9223372036854775807) = true:=decide_eq_true c45
              try have c45b2 : (9223372036854775807 < (((⟨#[40]⟩ : ByteArray) ++ t218) ++ (⟨#[32]⟩ : ByteArray)).size + ((⟨#[43,45,42,47,60,61,38]⟩ : ByteArray).extract ((ji37) : Int).toNat ((wrap64 ((ji37) + 1)) : Int).toNat).size) = False:=eq_false (Nat.not_lt.2 c45)
              try have c45b3 : (9223372036854775807 < (1 + t218.size) + 1 + ((⟨#[43,45,42,47,60,61,38]⟩ : ByteArray).extract ((ji37) : Int).toNat ((wrap64 ((ji37) + 1)) : Int).toNat).size) = False:=eq_false (Nat.not_lt.2 (by have h_:=c45;simp only [ByteArray.size_append] at h_;exact h_))
              try have c45b4 : (9223372036854775807 < (1 + t218.size) + 1 + (((wrap64 ((ji37) + 1))).toNat - ((ji37)).toNat)) = False:=eq_false (Nat.not_lt.2 (by have h_:=c45;simp only [ByteArray.size_append,ByteArray.size_extract] at h_;have b_ : (wrap64 ((ji37) + 1)) ≤ 7:=of_decide_eq_true (by assumption);have z_ : (⟨#[43,45,42,47,60,61,38]⟩ : ByteArray).size = 7:=rfl;have m_ : min ((wrap64 ((ji37) + 1))).toNat (⟨#[43,45,42,47,60,61,38]⟩ : ByteArray).size = ((wrap64 ((ji37) + 1))).toNat:=Nat.min_eq_left (by rw [z_];omega);rw [m_] at h_;exact h_))
              by_cases c46 : ((((⟨#[40]⟩ : ByteArray) ++ t218) ++ (⟨#[32]⟩ : ByteArray)) ++ ((⟨#[43,45,42,47,60,61,38]⟩ : ByteArray).extract ((ji37) : Int).toNat ((wrap64 ((ji37) + 1)) : Int).toNat)).size + 1 ≤ 9223372036854775807
              ·rw [if_pos c46] at H
               have c46b0:=eq_true c46
               have c46b1 : decide (((((⟨#[40]⟩ : ByteArray) ++ t218) ++ (⟨#[32]⟩ : ByteArray)) ++ ((⟨#[43,45,42,47,60,61,38]⟩ : ByteArray).extract ((ji37) : Int).toNat ((wrap64 ((ji37) + 1)) : Int).toNat)).size + 1 ≤ 9223372036854775807) = true:=decide_eq_true c46
               try have c46b2 : (9223372036854775807 < ((((⟨#[40]⟩ : ByteArray) ++ t218) ++ (⟨#[32]⟩ : ByteArray)) ++ ((⟨#[43,45,42,47,60,61,38]⟩ : ByteArray).extract ((ji37) : Int).toNat ((wrap64 ((ji37) + 1)) : Int).toNat)).size + 1) = False:=eq_false (Nat.not_lt.2 c46)
               try have c46b3 : (9223372036854775807 < ((1 + t218.size) + 1) + ((⟨#[43,45,42,47,60,61,38]⟩ : ByteArray).extract ((ji37) : Int).toNat ((wrap64 ((ji37) + 1)) : Int).toNat).size + 1) = False:=eq_false (Nat.not_lt.2 (by have h_:=c46;simp only [ByteArray.size_append] at h_;exact h_))
               try have c46b4 : (9223372036854775807 < ((1 + t218.size) + 1) + (((wrap64 ((ji37) + 1))).toNat - ((ji37)).toNat) + 1) = False:=eq_false (Nat.not_lt.2 (by have h_:=c46;simp only [ByteArray.size_append,ByteArray.size_extract] at h_;have b_ : (wrap64 ((ji37) + 1)) ≤ 7:=of_decide_eq_true (by assumption);have z_ : (⟨#[43,45,42,47,60,61,38]⟩ : ByteArray).size = 7:=rfl;have m_ : min ((wrap64 ((ji37) + 1))).toNat (⟨#[43,45,42,47,60,61,38]⟩ : ByteArray).size = ((wrap64 ((ji37) + 1))).toNat:=Nat.min_eq_left (by rw [z_];omega);rw [m_] at h_;exact h_))
               by_cases c47 : 1 < (((rd_T70 l0_0 a1).f3).length : Int)
               ·rw [if_pos c47] at H
                have c47b0 : decide (1 < (((rd_T70 l0_0 a1).f3).length : Int)) = true:=decide_eq_true c47
                have c47b1 : decide (1 < ((rd_T70 l0_0 a1).f3).length) = true:=decide_eq_true (by omega)
                clear c47
                replace H:=Option.bind_eq_some_iff.mp H
                obtain ⟨t220,A480,H⟩:=H
                replace H : (if (((((⟨#[40]⟩ : ByteArray) ++ t218) ++ (⟨#[32]⟩ : ByteArray)) ++ ((⟨#[43,45,42,47,60,61,38]⟩ : ByteArray).extract ((ji37) : Int).toNat ((wrap64 ((ji37) + 1)) : Int).toNat)) ++ (⟨#[32]⟩ : ByteArray)).size + t220.size ≤ 9223372036854775807 then (if ((((((⟨#[40]⟩ : ByteArray) ++ t218) ++ (⟨#[32]⟩ : ByteArray)) ++ ((⟨#[43,45,42,47,60,61,38]⟩ : ByteArray).extract ((ji37) : Int).toNat ((wrap64 ((ji37) + 1)) : Int).toNat)) ++ (⟨#[32]⟩ : ByteArray)) ++ t220).size + 1 ≤ 9223372036854775807 then (some (((((((⟨#[40]⟩ : ByteArray) ++ t218) ++ (⟨#[32]⟩ : ByteArray)) ++ ((⟨#[43,45,42,47,60,61,38]⟩ : ByteArray).extract ((ji37) : Int).toNat ((wrap64 ((ji37) + 1)) : Int).toNat)) ++ (⟨#[32]⟩ : ByteArray)) ++ t220) ++ (⟨#[41]⟩ : ByteArray))) else (none)) else (none)) = some r:=H
                have A48:=zm_ A480
                clear A480
                by_cases c49 : (((((⟨#[40]⟩ : ByteArray) ++ t218) ++ (⟨#[32]⟩ : ByteArray)) ++ ((⟨#[43,45,42,47,60,61,38]⟩ : ByteArray).extract ((ji37) : Int).toNat ((wrap64 ((ji37) + 1)) : Int).toNat)) ++ (⟨#[32]⟩ : ByteArray)).size + t220.size ≤ 9223372036854775807
                ·rw [if_pos c49] at H
                 have c49b0:=eq_true c49
                 have c49b1 : decide ((((((⟨#[40]⟩ : ByteArray) ++ t218) ++ (⟨#[32]⟩ : ByteArray)) ++ ((⟨#[43,45,42,47,60,61,38]⟩ : ByteArray).extract ((ji37) : Int).toNat ((wrap64 ((ji37) + 1)) : Int).toNat)) ++ (⟨#[32]⟩ : ByteArray)).size + t220.size ≤ 9223372036854775807) = true:=decide_eq_true c49
                 try have c49b2 : (9223372036854775807 < (((((⟨#[40]⟩ : ByteArray) ++ t218) ++ (⟨#[32]⟩ : ByteArray)) ++ ((⟨#[43,45,42,47,60,61,38]⟩ : ByteArray).extract ((ji37) : Int).toNat ((wrap64 ((ji37) + 1)) : Int).toNat)) ++ (⟨#[32]⟩ : ByteArray)).size + t220.size) = False:=eq_false (Nat.not_lt.2 c49)
                 try have c49b3 : (9223372036854775807 < (((1 + t218.size) + 1) + ((⟨#[43,45,42,47,60,61,38]⟩ : ByteArray).extract ((ji37) : Int).toNat ((wrap64 ((ji37) + 1)) : Int).toNat).size) + 1 + t220.size) = False:=eq_false (Nat.not_lt.2 (by have h_:=c49;simp only [ByteArray.size_append] at h_;exact h_))
                 try have c49b4 : (9223372036854775807 < (((1 + t218.size) + 1) + (((wrap64 ((ji37) + 1))).toNat - ((ji37)).toNat)) + 1 + t220.size) = False:=eq_false (Nat.not_lt.2 (by have h_:=c49;simp only [ByteArray.size_append,ByteArray.size_extract] at h_;have b_ : (wrap64 ((ji37) + 1)) ≤ 7:=of_decide_eq_true (by assumption);have z_ : (⟨#[43,45,42,47,60,61,38]⟩ : ByteArray).size = 7:=rfl;have m_ : min ((wrap64 ((ji37) + 1))).toNat (⟨#[43,45,42,47,60,61,38]⟩ : ByteArray).size = ((wrap64 ((ji37) + 1))).toNat:=Nat.min_eq_left (by rw [z_];omega);rw [m_] at h_;exact h_))
                 by_cases c50 : ((((((⟨#[40]⟩ : ByteArray) ++ t218) ++ (⟨#[32]⟩ : ByteArray)) ++ ((⟨#[43,45,42,47,60,61,38]⟩ : ByteArray).extract ((ji37) : Int).toNat ((wrap64 ((ji37) + 1)) : Int).toNat)) ++ (⟨#[32]⟩ : ByteArray)) ++ t220).size + 1 ≤ 9223372036854775807
                 ·rw [if_pos c50] at H
                  have c50b0:=eq_true c50
                  have c50b1 : decide (((((((⟨#[40]⟩ : ByteArray) ++ t218) ++ (⟨#[32]⟩ : ByteArray)) ++ ((⟨#[43,45,42,47,60,61,38]⟩ : ByteArray).extract ((ji37) : Int).toNat ((wrap64 ((ji37) + 1)) : Int).toNat)) ++ (⟨#[32]⟩ : ByteArray)) ++ t220).size + 1 ≤ 9223372036854775807) = true:=decide_eq_true c50
                  try have c50b2 : (9223372036854775807 < ((((((⟨#[40]⟩ : ByteArray) ++ t218) ++ (⟨#[32]⟩ : ByteArray)) ++ ((⟨#[43,45,42,47,60,61,38]⟩ : ByteArray).extract ((ji37) : Int).toNat ((wrap64 ((ji37) + 1)) : Int).toNat)) ++ (⟨#[32]⟩ : ByteArray)) ++ t220).size + 1) = False:=eq_false (Nat.not_lt.2 c50)
                  try have c50b3 : (9223372036854775807 < ((((1 + t218.size) + 1) + ((⟨#[43,45,42,47,60,61,38]⟩ : ByteArray).extract ((ji37) : Int).toNat ((wrap64 ((ji37) + 1)) : Int).toNat).size) + 1) + t220.size + 1) = False:=eq_false (Nat.not_lt.2 (by have h_:=c50;simp only [ByteArray.size_append] at h_;exact h_))
                  try have c50b4 : (9223372036854775807 < ((((1 + t218.size) + 1) + (((wrap64 ((ji37) + 1))).toNat - ((ji37)).toNat)) + 1) + t220.size + 1) = False:=eq_false (Nat.not_lt.2 (by have h_:=c50;simp only [ByteArray.size_append,ByteArray.size_extract] at h_;have b_ : (wrap64 ((ji37) + 1)) ≤ 7:=of_decide_eq_true (by assumption);have z_ : (⟨#[43,45,42,47,60,61,38]⟩ : ByteArray).size = 7:=rfl;have m_ : min ((wrap64 ((ji37) + 1))).toNat (⟨#[43,45,42,47,60,61,38]⟩ : ByteArray).size = ((wrap64 ((ji37) + 1))).toNat:=Nat.min_eq_left (by rw [z_];omega);rw [m_] at h_;exact h_))
                  obtain rfl:=Option.some.inj H
                  go_enter Tryd.func46,Tryd.ntmps46
                  try go_wp2_with (first|((with_reducible refine gate_dst (N:=2) rfl ?_);refine box_event ?hg (N:=2) ?hd (cs:=#[.slice A0_0 l0_0.length c0_0]) (t:=44) ?hr ?_;(case hd => rfl);(case hg => rfl);(case hr => first|(go_simp;done)|(go_simp;rfl));intro gb211 hg w51 hbox hb;have n0_:=zm_ (below_step (by repeat (first|(with_reducible first|exact HB.out|apply za_|apply zn_|apply zd_)|exact HB.out)) hb);have n1_:=zm_ (hbox);have n2_:=zm_ ((by rw [hg];exact (below_size (by repeat (first|(with_reducible first|exact HB.out|apply za_|apply zn_|apply zd_)|exact HB.out))) : w.heap.size ≤ gb211));have n3_:=zm_ ((by rw [hg];exact (below_size (by repeat (first|(with_reducible first|exact HB.out|apply za_|apply zn_|apply zd_)|exact HB.out))) : w.heap.size ≤ gb211));clear HB;have HB:=n0_;have BK211:=n1_;have GW211:=n2_;have GE211:=n3_;clear n0_ n1_ n2_ n3_;clear hb hbox hg;have hcz52_0 : w51.cell? ⟨gb211,0,none⟩ = some (.slice A0_0 l0_0.length c0_0):=(zc_ BK211.out 0).trans rfl;have hfz52_0:=zf_ BK211.out 0;have p212 : 0 ≤ (a1 : Int):=zo_;have q212 : a1 < (l0_0.length : Int):=zo_;obtain ⟨ad212,A212_3,c212_3,e212,hx212_0,hx212_1,hx212_2,hx212_3,hl212_3,hi212_3⟩:=at_T70 HR0_0.out a1 p212 q212;cases e212;replace hx212_0:=(HB.out.cell (zb_ w _ hx212_0)).trans hx212_0;replace hx212_1:=(HB.out.cell (zb_ w _ hx212_1)).trans hx212_1;replace hx212_2:=(HB.out.cell (zb_ w _ hx212_2)).trans hx212_2;replace hx212_3:=(HB.out.cell (zb_ w _ hx212_3)).trans hx212_3;have HR212_3:=zm_ hi212_3;have HC212_3:=zm_ hl212_3;clear hi212_3 hl212_3;replace p212:=eq_true p212;replace q212:=eq_true q212)|((with_reducible refine gate_dst (N:=5) rfl ?_);refine box_event ?hg (N:=5) ?hd (cs:=#[.int .i64 0,.int .i64 0,.string (⟨#[]⟩ : ByteArray),.slice none 0 0]) (t:=70) ?hr ?_;(case hd => rfl);(case hg => rfl);(case hr => first|(go_simp;done)|(go_simp;rfl));intro gb213 hg w53 hbox hb;have n0_:=zm_ (blk_below (g:=gb211) (o:=.cells #[.slice (some ad212) l0_0.length c0_0] 44 (0,0)) (by (with_reducible repeat first|refine zl_ ?_ _|refine zr_ ?_|refine zk_ ?_ _);exact BK211.out) hb);have n1_:=zm_ (below_step (by repeat (first|(with_reducible first|exact HB.out|apply za_|apply zn_|apply zd_|refine zs_ ?_ GE211.out)|exact HB.out)) hb);have n2_:=zm_ (hbox);have n3_:=zm_ ((by rw [hg];exact (below_size (by repeat (first|(with_reducible first|exact HB.out|apply za_|apply zn_|apply zd_|refine zs_ ?_ GE211.out)|exact HB.out))) : w.heap.size ≤ gb213));have n4_:=zm_ ((by rw [hg];exact (below_size (by repeat (first|(with_reducible first|exact HB.out|apply za_|apply zn_|apply zd_|refine zs_ ?_ GE211.out)|exact HB.out))) : w.heap.size ≤ gb213));have n5_:=zm_ ((by rw [hg];exact Nat.ne_of_lt (blk_lt (g:=gb211) (o:=.cells #[.slice (some ad212) l0_0.length c0_0] 44 (0,0)) (by (with_reducible repeat first|refine zl_ ?_ _|refine zr_ ?_|refine zk_ ?_ _);exact BK211.out)) : gb211 ≠ gb213));have n6_:=zm_ ((by rw [hg];exact Nat.ne_of_gt (blk_lt (g:=gb211) (o:=.cells #[.slice (some ad212) l0_0.length c0_0] 44 (0,0)) (by (with_reducible repeat first|refine zl_ ?_ _|refine zr_ ?_|refine zk_ ?_ _);exact BK211.out)) : gb213 ≠ gb211));clear BK211;clear HB;have BK211:=n0_;have HB:=n1_;have BK213:=n2_;have GW213:=n3_;have GE213:=n4_;have NB211_213:=n5_;have NB213_211:=n6_;clear n0_ n1_ n2_ n3_ n4_ n5_ n6_;clear hb hbox hg;have hnb54:=NB213_211.out;have hnc54:=NB211_213.out;have hcz55_0 : w53.cell? ⟨gb213,0,none⟩ = some (.int .i64 0):=(zc_ BK213.out 0).trans rfl;have hcz55_1 : w53.cell? ⟨gb213,1,none⟩ = some (.int .i64 0):=(zc_ BK213.out 1).trans rfl;have hcz55_2 : w53.cell? ⟨gb213,2,none⟩ = some (.string (⟨#[]⟩ : ByteArray)):=(zc_ BK213.out 2).trans rfl;have hcz55_3 : w53.cell? ⟨gb213,3,none⟩ = some (.slice none 0 0):=(zc_ BK213.out 3).trans rfl;have hfz55_0:=zf_ BK213.out 0;have hfz55_1:=zf_ BK213.out 1;have hfz55_2:=zf_ BK213.out 2;have hfz55_3:=zf_ BK213.out 3))
                  have n0_ : Aside0 (((((w53.setCell ⟨gb213,0,none⟩ (.int .i64 ((rd_T70 l0_0 a1).f0))).setCell ⟨gb213,1,none⟩ (.int .i64 ((rd_T70 l0_0 a1).f1))).setCell ⟨gb213,2,none⟩ (.string ((rd_T70 l0_0 a1).f2))).setCell ⟨gb213,3,none⟩ (.slice A212_3 ((rd_T70 l0_0 a1).f3).length c212_3)).heap[gb211]? = some (.cells #[.slice (some ad212) l0_0.length c0_0] 44 (0,0))):=⟨by (with_reducible repeat first|refine zl_ ?_ _|refine zr_ ?_|refine zk_ ?_ _);refine blk_far ?_ NB211_213.out _;(with_reducible repeat first|refine zl_ ?_ _|refine zr_ ?_|refine zk_ ?_ _);refine blk_far ?_ NB211_213.out _;(with_reducible repeat first|refine zl_ ?_ _|refine zr_ ?_|refine zk_ ?_ _);refine blk_far ?_ NB211_213.out _;(with_reducible repeat first|refine zl_ ?_ _|refine zr_ ?_|refine zk_ ?_ _);refine blk_far ?_ NB211_213.out _;(with_reducible repeat first|refine zl_ ?_ _|refine zr_ ?_|refine zk_ ?_ _);exact BK211.out⟩
                  have n1_ : Aside0 (((((w53.setCell ⟨gb213,0,none⟩ (.int .i64 ((rd_T70 l0_0 a1).f0))).setCell ⟨gb213,1,none⟩ (.int .i64 ((rd_T70 l0_0 a1).f1))).setCell ⟨gb213,2,none⟩ (.string ((rd_T70 l0_0 a1).f2))).setCell ⟨gb213,3,none⟩ (.slice A212_3 ((rd_T70 l0_0 a1).f3).length c212_3)).heap[gb213]? = some (.cells #[.int .i64 ((rd_T70 l0_0 a1).f0),.int .i64 ((rd_T70 l0_0 a1).f1),.string ((rd_T70 l0_0 a1).f2),.slice A212_3 ((rd_T70 l0_0 a1).f3).length c212_3] 70 (0,0))):=⟨by (with_reducible repeat first|refine zl_ ?_ _|refine zr_ ?_|refine zk_ ?_ _);refine blk_put (cs:=#[.int .i64 ((rd_T70 l0_0 a1).f0),.int .i64 ((rd_T70 l0_0 a1).f1),.string ((rd_T70 l0_0 a1).f2),.slice none 0 0]) ?_ 3 _ rfl;(with_reducible repeat first|refine zl_ ?_ _|refine zr_ ?_|refine zk_ ?_ _);refine blk_put (cs:=#[.int .i64 ((rd_T70 l0_0 a1).f0),.int .i64 ((rd_T70 l0_0 a1).f1),.string (⟨#[]⟩ : ByteArray),.slice none 0 0]) ?_ 2 _ rfl;(with_reducible repeat first|refine zl_ ?_ _|refine zr_ ?_|refine zk_ ?_ _);refine blk_put (cs:=#[.int .i64 ((rd_T70 l0_0 a1).f0),.int .i64 0,.string (⟨#[]⟩ : ByteArray),.slice none 0 0]) ?_ 1 _ rfl;(with_reducible repeat first|refine zl_ ?_ _|refine zr_ ?_|refine zk_ ?_ _);refine blk_put (cs:=#[.int .i64 0,.int .i64 0,.string (⟨#[]⟩ : ByteArray),.slice none 0 0]) ?_ 0 _ rfl;(with_reducible repeat first|refine zl_ ?_ _|refine zr_ ?_|refine zk_ ?_ _);exact BK213.out⟩
                  have n2_ : Aside0 (Below w.heap.size w ((((w53.setCell ⟨gb213,0,none⟩ (.int .i64 ((rd_T70 l0_0 a1).f0))).setCell ⟨gb213,1,none⟩ (.int .i64 ((rd_T70 l0_0 a1).f1))).setCell ⟨gb213,2,none⟩ (.string ((rd_T70 l0_0 a1).f2))).setCell ⟨gb213,3,none⟩ (.slice A212_3 ((rd_T70 l0_0 a1).f3).length c212_3))):=⟨by repeat (first|(with_reducible first|exact HB.out|apply za_|apply zn_|apply zd_|refine zs_ ?_ GE211.out|refine zs_ ?_ GE213.out)|exact HB.out)⟩
                  (try clear BK211)
                  (try clear BK213)
                  (try clear HB)
                  generalize ((((w53.setCell ⟨gb213,0,none⟩ (.int .i64 ((rd_T70 l0_0 a1).f0))).setCell ⟨gb213,1,none⟩ (.int .i64 ((rd_T70 l0_0 a1).f1))).setCell ⟨gb213,2,none⟩ (.string ((rd_T70 l0_0 a1).f2))).setCell ⟨gb213,3,none⟩ (.slice A212_3 ((rd_T70 l0_0 a1).f3).length c212_3)) = w56 at n0_ n1_ n2_ ⊢
                  have BK211:=n0_
                  have BK213:=n1_
                  have HB:=n2_
                  clear n0_ n1_ n2_
                  have n0_:=zm_ (zr_ BK211.out)
                  have n1_:=zm_ (zr_ BK213.out)
                  have n2_:=zm_ (zd_ HB.out)
                  clear BK211
                  clear BK213
                  clear HB
                  have BK211:=n0_
                  have BK213:=n1_
                  have HB:=n2_
                  clear n0_ n1_ n2_
                  have p217 : 0 ≤ (0 : Int):=(by omega)
                  have q217 : 0 < (((rd_T70 l0_0 a1).f3).length : Int):=zo_
                  obtain ⟨ad217,e217,hx217_0⟩:=Kd.at_int HR212_3.out 0 p217 q217
                  have hw217_0:=hx217_0
                  (try rw [show ((0 : Int)).toNat = 0 from rfl] at hw217_0)
                  (try rw [show 0 * 1 = 0 from rfl] at hw217_0)
                  (try rw [Addr.add_zero'] at hw217_0)
                  cases e217
                  have qi217 : (0 < ((rd_T70 l0_0 a1).f3).length) = True:=eq_true (by omega)
                  (try rw [show ((0 : Int)).toNat = 0 from rfl] at hx217_0)
                  (try rw [Addr.add_zero'] at hx217_0)
                  replace hx217_0:=(HB.out.cell (zb_ w _ hx217_0)).trans hx217_0
                  replace p217:=eq_true p217
                  replace q217:=eq_true q217
                  have p219 : 0 ≤ (1 : Int):=(by omega)
                  have q219 : 1 < (((rd_T70 l0_0 a1).f3).length : Int):=zo_
                  obtain ⟨ad219,e219,hx219_0⟩:=Kd.at_int HR212_3.out 1 p219 q219
                  have hw219_0:=hx219_0
                  (try rw [show ((1 : Int)).toNat = 1 from rfl] at hw219_0)
                  (try rw [show 1 * 1 = 1 from rfl] at hw219_0)
                  (try simp only [Nat.reduceMul,Nat.reduceEqDiff,Go.Addr.add,↓reduceIte] at hw219_0)
                  obtain rfl : ad217 = ad219:=(by injection e219)
                  (try simp only [show (1 : Int).toNat = 1 from rfl,Nat.reduceMul,Nat.reduceEqDiff,Go.Addr.add,↓reduceIte] at hx219_0)
                  have qi219 : (1 < ((rd_T70 l0_0 a1).f3).length) = True:=eq_true (by omega)
                  (try rw [show ((1 : Int)).toNat = 1 from rfl] at hx219_0)
                  replace hx219_0:=(HB.out.cell (zb_ w _ hx219_0)).trans hx219_0
                  replace p219:=eq_true p219
                  replace q219:=eq_true q219
                  refine start_ (n:=20) (S:=fun w' => w'.cell? ⟨gb211,0,none⟩ = some (.slice (some ad212) l0_0.length c0_0) ∧ w'.cell? ⟨gb213,0,none⟩ = some (.int .i64 ((rd_T70 l0_0 a1).f0)) ∧ w'.cell? ⟨gb213,1,none⟩ = some (.int .i64 ((rd_T70 l0_0 a1).f1)) ∧ w'.cell? ⟨gb213,2,none⟩ = some (.string ((rd_T70 l0_0 a1).f2)) ∧ w'.cell? ⟨gb213,3,none⟩ = some (.slice (some ad217) ((rd_T70 l0_0 a1).f3).length c212_3) ∧ w'.cell? ad217 = some (.int .i64 (rd ((rd_T70 l0_0 a1).f3) 0)) ∧ w'.cell? ⟨ad217.block,ad217.off + 1,none⟩ = some (.int .i64 (rd ((rd_T70 l0_0 a1).f3) 1))) (ds:=[]) #[false,false,false,false,false,false,false,false,false,false,false,false,false,false,false,false,false,false,false,false] (by kernel_rfl) rfl rfl ⟨(zc_ BK211.out 0).trans rfl,(zc_ BK213.out 0).trans rfl,(zc_ BK213.out 1).trans rfl,(zc_ BK213.out 2).trans rfl,(zc_ BK213.out 3).trans rfl,((HB.out.cell (zb_ w _ hw217_0)).trans hw217_0),((HB.out.cell (zb_ w _ hw219_0)).trans hw219_0)⟩ (fun hHeld => ?_);refine with_tabW impl_showNode.tab12 impl_showNode.bits12 (fun HT_ HW_ => ?_)
                  generalize w56.drew = w57 at BK211 BK213 HB hx217_0 hx219_0 hHeld ⊢
                  refine pure_ (i:=1) (N:=some 43) (v:=?_) (a':=?_) #[false,true,false,false,false,false,false,false,false,false,false,false,false,false,false,false,false,false,false,false] rfl rfl (any_of HT_.out (by kernel_rfl)) (fun _ _ _ h => h) (Or.inl ⟨by rfl,?_⟩) ?_ ?_
                  rotate_left
                  ·intro w'
                   go_simp
                   with_reducible rfl
                  rotate_left
                  ·simp only [Act.put,List.setIfInBounds_toArray,List.set_cons_zero,List.set_cons_succ,i64_w,i32_w,IntKind.wrap_u8]
                   rfl
                  refine pure_ (i:=8) (N:=some 50) (v:=?_) (a':=?_) #[false,true,false,false,false,false,false,false,true,false,false,false,false,false,false,false,false,false,false,false] rfl rfl (any_of HT_.out (by kernel_rfl)) (fun _ _ _ h => h) (Or.inl ⟨by rfl,?_⟩) ?_ ?_
                  rotate_left
                  ·intro w'
                   go_simp
                   with_reducible rfl
                  rotate_left
                  ·simp only [Act.put,List.setIfInBounds_toArray,List.set_cons_zero,List.set_cons_succ,i64_w,i32_w,IntKind.wrap_u8]
                   rfl
                  refine pure_ (i:=12) (N:=some 54) (v:=?_) (a':=?_) #[false,true,false,false,false,false,false,false,true,false,false,false,true,false,false,false,false,false,false,false] rfl rfl (any_of HT_.out (by kernel_rfl)) (fun _ _ _ h => h) (Or.inl ⟨by rfl,?_⟩) ?_ ?_
                  rotate_left
                  ·intro w'
                   go_simp
                   with_reducible rfl
                  rotate_left
                  ·simp only [Act.put,List.setIfInBounds_toArray,List.set_cons_zero,List.set_cons_succ,i64_w,i32_w,IntKind.wrap_u8]
                   rfl
                  refine take_ (i:=0) (N:=some 42) (v:=?_) (a':=?_) #[true,true,false,false,false,false,false,false,true,false,false,false,true,false,false,false,false,false,false,false] rfl rfl (take_ofW HT_.out HW_.out (by kernel_rfl)) (fun _ _ _ h => h) (Or.inl ⟨by rfl,?_⟩) hHeld ?_ ?_
                  rotate_left
                  ·rintro w' ⟨s0,s1,s2,s3,s4,s5,s6⟩
                   go_simp
                   with_reducible rfl
                  rotate_left
                  ·simp only [Act.put,List.setIfInBounds_toArray,List.set_cons_zero,List.set_cons_succ,i64_w,i32_w,IntKind.wrap_u8]
                   rfl
                  refine take_ (i:=2) (N:=some 44) (v:=?_) (a':=?_) #[true,true,true,false,false,false,false,false,true,false,false,false,true,false,false,false,false,false,false,false] rfl rfl (take_ofW HT_.out HW_.out (by kernel_rfl)) (fun _ _ _ h => h) (Or.inl ⟨by rfl,?_⟩) hHeld ?_ ?_
                  rotate_left
                  ·rintro w' ⟨s0,s1,s2,s3,s4,s5,s6⟩
                   go_simp
                   with_reducible rfl
                  rotate_left
                  ·simp only [Act.put,List.setIfInBounds_toArray,List.set_cons_zero,List.set_cons_succ,i64_w,i32_w,IntKind.wrap_u8]
                   rfl
                  refine pure_ (i:=3) (N:=some 45) (v:=?_) (a':=?_) #[true,true,true,true,false,false,false,false,true,false,false,false,true,false,false,false,false,false,false,false] rfl rfl (any_of HT_.out (by kernel_rfl)) (fun _ _ _ h => h) (Or.inl ⟨by rfl,?_⟩) ?_ ?_
                  rotate_left
                  ·intro w'
                   go_simp
                   with_reducible rfl
                  rotate_left
                  ·simp only [Act.put,List.setIfInBounds_toArray,List.set_cons_zero,List.set_cons_succ,i64_w,i32_w,IntKind.wrap_u8]
                   rfl
                  refine take_ (i:=4) (N:=some 46) (v:=?_) (a':=?_) #[true,true,true,true,true,false,false,false,true,false,false,false,true,false,false,false,false,false,false,false] rfl rfl (take_ofW HT_.out HW_.out (by kernel_rfl)) (fun _ _ _ h => h) (Or.inl ⟨by rfl,?_⟩) hHeld ?_ ?_
                  rotate_left
                  ·rintro w' ⟨s0,s1,s2,s3,s4,s5,s6⟩
                   go_simp
                   with_reducible rfl
                  rotate_left
                  ·simp only [Act.put,List.setIfInBounds_toArray,List.set_cons_zero,List.set_cons_succ,i64_w,i32_w,IntKind.wrap_u8]
                   rfl
                  refine take_ (i:=11) (N:=some 53) (v:=?_) (a':=?_) #[true,true,true,true,true,false,false,false,true,false,false,true,true,false,false,false,false,false,false,false] rfl rfl (take_ofW HT_.out HW_.out (by kernel_rfl)) (fun _ _ _ h => h) (Or.inl ⟨by rfl,?_⟩) hHeld ?_ ?_
                  rotate_left
                  ·rintro w' ⟨s0,s1,s2,s3,s4,s5,s6⟩
                   go_simp
                   with_reducible rfl
                  rotate_left
                  ·simp only [Act.put,List.setIfInBounds_toArray,List.set_cons_zero,List.set_cons_succ,i64_w,i32_w,IntKind.wrap_u8]
                   rfl
                  refine take_ (i:=13) (N:=some 55) (v:=?_) (a':=?_) #[true,true,true,true,true,false,false,false,true,false,false,true,true,true,false,false,false,false,false,false] rfl rfl (take_ofW HT_.out HW_.out (by kernel_rfl)) (fun _ _ _ h => h) (Or.inl ⟨by rfl,?_⟩) hHeld ?_ ?_
                  rotate_left
                  ·rintro w' ⟨s0,s1,s2,s3,s4,s5,s6⟩
                   go_simp
                   with_reducible rfl
                  rotate_left
                  ·simp only [Act.put,List.setIfInBounds_toArray,List.set_cons_zero,List.set_cons_succ,i64_w,i32_w,IntKind.wrap_u8]
                   rfl
                  refine pure_ (i:=14) (N:=some 56) (v:=?_) (a':=?_) #[true,true,true,true,true,false,false,false,true,false,false,true,true,true,true,false,false,false,false,false] rfl rfl (any_of HT_.out (by kernel_rfl)) (fun _ _ _ h => h) (Or.inl ⟨by rfl,?_⟩) ?_ ?_
                  rotate_left
                  ·intro w'
                   go_simp
                   with_reducible rfl
                  rotate_left
                  ·simp only [Act.put,List.setIfInBounds_toArray,List.set_cons_zero,List.set_cons_succ,i64_w,i32_w,IntKind.wrap_u8]
                   rfl
                  refine take_ (i:=15) (N:=some 57) (v:=?_) (a':=?_) #[true,true,true,true,true,false,false,false,true,false,false,true,true,true,true,true,false,false,false,false] rfl rfl (take_ofW HT_.out HW_.out (by kernel_rfl)) (fun _ _ _ h => h) (Or.inl ⟨by rfl,?_⟩) hHeld ?_ ?_
                  rotate_left
                  ·rintro w' ⟨s0,s1,s2,s3,s4,s5,s6⟩
                   go_simp
                   with_reducible rfl
                  rotate_left
                  ·simp only [Act.put,List.setIfInBounds_toArray,List.set_cons_zero,List.set_cons_succ,i64_w,i32_w,IntKind.wrap_u8]
                   rfl
                  refine one_ (i:=5) (N:=some 47) #[true,true,true,true,true,true,false,false,true,false,false,true,true,true,true,true,false,false,false,false] rfl rfl (one_of HT_.out (by kernel_rfl)) (by decide) (fun K hK => ?_)
                  refine goes_ Tryd.func46 (by kernel_rfl) rfl #[.agg #[.slice (some ad212) l0_0.length c0_0],.int .i64 (rd ((rd_T70 l0_0 a1).f3) 0)] (by rfl) rfl rfl (by (try simp only [List.map_toArray,List.map_cons,List.map_nil]);first|done|rfl|(simp only [List.length_drop,List.length_take];rfl)) ?_
                  with_reducible refine (ih k (by omega) _ _ l0_0 (rd ((rd_T70 l0_0 a1).f3) 0) t218 _ ?side1 ?side2 (Tb.below HTAB.out (by repeat (first|(with_reducible first|exact HB.out|apply za_|apply zn_|apply zd_|refine zs_ ?_ GE211.out|refine zs_ ?_ GE213.out)|exact HB.out))) A42.out).mono ?_
                  (case side1 => repeat (first|exact (Kd.C_below HR0_0.out HB.out)|(with_reducible refine Kd.C_alloc ?_ _)|(with_reducible refine Kd.C_drewN ?_ _)|(with_reducible refine Kd.C_drew ?_)))
                  (case side2 => exact HC0_0.out)
                  rintro e w58 ⟨rfl,hb⟩
                  refine ⟨_,rfl,?_⟩
                  have n0_:=zm_ (blk_below (g:=gb211) (o:=.cells #[.slice (some ad212) l0_0.length c0_0] 44 (0,0)) (by (with_reducible repeat first|refine zl_ ?_ _|refine zr_ ?_|refine zk_ ?_ _);exact BK211.out) hb)
                  have n1_:=zm_ (blk_below (g:=gb213) (o:=.cells #[.int .i64 ((rd_T70 l0_0 a1).f0),.int .i64 ((rd_T70 l0_0 a1).f1),.string ((rd_T70 l0_0 a1).f2),.slice (some ad217) ((rd_T70 l0_0 a1).f3).length c212_3] 70 (0,0)) (by (with_reducible repeat first|refine zl_ ?_ _|refine zr_ ?_|refine zk_ ?_ _);exact BK213.out) hb)
                  have n2_:=zm_ (below_step (by repeat (first|(with_reducible first|exact HB.out|apply za_|apply zn_|apply zd_|refine zs_ ?_ GE211.out|refine zs_ ?_ GE213.out)|exact HB.out)) hb)
                  clear BK211
                  clear BK213
                  clear HB
                  have BK211:=n0_
                  have BK213:=n1_
                  have HB:=n2_
                  clear n0_ n1_ n2_
                  (try clear hb)
                  (try clear hb2)
                  (try clear hk)
                  (try clear hi)
                  refine hK.out _ _ ⟨(zc_ BK211.out 0).trans rfl,(zc_ BK213.out 0).trans rfl,(zc_ BK213.out 1).trans rfl,(zc_ BK213.out 2).trans rfl,(zc_ BK213.out 3).trans rfl,((HB.out.cell (zb_ w _ hw217_0)).trans hw217_0),((HB.out.cell (zb_ w _ hw219_0)).trans hw219_0)⟩ (fun hHeld => ?_)
                  clear hK K
                  refine norm_ (a':=?_) ?_ ?_
                  rotate_left
                  ·show Act.put _ (some 47) _ = _
                   simp only [Act.put,List.setIfInBounds_toArray,List.set_cons_zero,List.set_cons_succ,i64_w,i32_w,IntKind.wrap_u8]
                   rfl
                  refine pure_ (i:=6) (N:=some 48) (v:=?_) (a':=?_) #[true,true,true,true,true,true,true,false,true,false,false,true,true,true,true,true,false,false,false,false] rfl rfl (any_of HT_.out (by kernel_rfl)) (fun _ _ _ h => h) (Or.inl ⟨by rfl,?_⟩) ?_ ?_
                  rotate_left
                  ·intro w'
                   go_simp
                   with_reducible rfl
                  rotate_left
                  ·simp only [Act.put,List.setIfInBounds_toArray,List.set_cons_zero,List.set_cons_succ,i64_w,i32_w,IntKind.wrap_u8]
                   rfl
                  refine pure_ (i:=7) (N:=some 49) (v:=?_) (a':=?_) #[true,true,true,true,true,true,true,true,true,false,false,true,true,true,true,true,false,false,false,false] rfl rfl (any_of HT_.out (by kernel_rfl)) (fun _ _ _ h => h) (Or.inl ⟨by rfl,?_⟩) ?_ ?_
                  rotate_left
                  ·intro w'
                   go_simp
                   with_reducible rfl
                  rotate_left
                  ·simp only [Act.put,List.setIfInBounds_toArray,List.set_cons_zero,List.set_cons_succ,i64_w,i32_w,IntKind.wrap_u8]
                   rfl
                  refine pure_ (i:=9) (N:=some 51) (v:=?_) (a':=?_) #[true,true,true,true,true,true,true,true,true,true,false,true,true,true,true,true,false,false,false,false] rfl rfl (any_of HT_.out (by kernel_rfl)) (fun _ _ _ h => h) (Or.inl ⟨by rfl,?_⟩) ?_ ?_
                  rotate_left
                  ·intro w'
                   go_simp
                   with_reducible rfl
                  rotate_left
                  ·simp only [Act.put,List.setIfInBounds_toArray,List.set_cons_zero,List.set_cons_succ,i64_w,i32_w,IntKind.wrap_u8]
                   rfl
                  refine pure_ (i:=10) (N:=some 52) (v:=?_) (a':=?_) #[true,true,true,true,true,true,true,true,true,true,true,true,true,true,true,true,false,false,false,false] rfl rfl (any_of HT_.out (by kernel_rfl)) (fun _ _ _ h => h) (Or.inl ⟨by rfl,?_⟩) ?_ ?_
                  rotate_left
                  ·intro w'
                   go_simp
                   with_reducible rfl
                  rotate_left
                  ·simp only [Act.put,List.setIfInBounds_toArray,List.set_cons_zero,List.set_cons_succ,i64_w,i32_w,IntKind.wrap_u8]
                   rfl
                  refine one_ (i:=16) (N:=some 58) #[true,true,true,true,true,true,true,true,true,true,true,true,true,true,true,true,true,false,false,false] rfl rfl (one_of HT_.out (by kernel_rfl)) (by decide) (fun K hK => ?_)
                  refine goes_ Tryd.func46 (by kernel_rfl) rfl #[.agg #[.slice (some ad212) l0_0.length c0_0],.int .i64 (rd ((rd_T70 l0_0 a1).f3) 1)] (by rfl) rfl rfl (by (try simp only [List.map_toArray,List.map_cons,List.map_nil]);first|done|rfl|(simp only [List.length_drop,List.length_take];rfl)) ?_
                  with_reducible refine (ih k (by omega) _ _ l0_0 (rd ((rd_T70 l0_0 a1).f3) 1) t220 _ ?side1 ?side2 (Tb.below HTAB.out (by repeat (first|(with_reducible first|exact HB.out|apply za_|apply zn_|apply zd_|refine zs_ ?_ GE211.out|refine zs_ ?_ GE213.out)|exact HB.out))) A48.out).mono ?_
                  (case side1 => repeat (first|exact (Kd.C_below HR0_0.out HB.out)|(with_reducible refine Kd.C_alloc ?_ _)|(with_reducible refine Kd.C_drewN ?_ _)|(with_reducible refine Kd.C_drew ?_)))
                  (case side2 => exact HC0_0.out)
                  rintro e w59 ⟨rfl,hb⟩
                  refine ⟨_,rfl,?_⟩
                  have n0_:=zm_ (blk_below (g:=gb211) (o:=.cells #[.slice (some ad212) l0_0.length c0_0] 44 (0,0)) (by (with_reducible repeat first|refine zl_ ?_ _|refine zr_ ?_|refine zk_ ?_ _);exact BK211.out) hb)
                  have n1_:=zm_ (blk_below (g:=gb213) (o:=.cells #[.int .i64 ((rd_T70 l0_0 a1).f0),.int .i64 ((rd_T70 l0_0 a1).f1),.string ((rd_T70 l0_0 a1).f2),.slice (some ad217) ((rd_T70 l0_0 a1).f3).length c212_3] 70 (0,0)) (by (with_reducible repeat first|refine zl_ ?_ _|refine zr_ ?_|refine zk_ ?_ _);exact BK213.out) hb)
                  have n2_:=zm_ (below_step (by repeat (first|(with_reducible first|exact HB.out|apply za_|apply zn_|apply zd_|refine zs_ ?_ GE211.out|refine zs_ ?_ GE213.out)|exact HB.out)) hb)
                  clear BK211
                  clear BK213
                  clear HB
                  have BK211:=n0_
                  have BK213:=n1_
                  have HB:=n2_
                  clear n0_ n1_ n2_
                  (try clear hb)
                  (try clear hb2)
                  (try clear hk)
                  (try clear hi)
                  refine hK.out _ _ ⟨(zc_ BK211.out 0).trans rfl,(zc_ BK213.out 0).trans rfl,(zc_ BK213.out 1).trans rfl,(zc_ BK213.out 2).trans rfl,(zc_ BK213.out 3).trans rfl,((HB.out.cell (zb_ w _ hw217_0)).trans hw217_0),((HB.out.cell (zb_ w _ hw219_0)).trans hw219_0)⟩ (fun hHeld => ?_)
                  clear hK K
                  refine norm_ (a':=?_) ?_ ?_
                  rotate_left
                  ·show Act.put _ (some 58) _ = _
                   simp only [Act.put,List.setIfInBounds_toArray,List.set_cons_zero,List.set_cons_succ,i64_w,i32_w,IntKind.wrap_u8]
                   rfl
                  refine pure_ (i:=17) (N:=some 59) (v:=?_) (a':=?_) #[true,true,true,true,true,true,true,true,true,true,true,true,true,true,true,true,true,true,false,false] rfl rfl (any_of HT_.out (by kernel_rfl)) (fun _ _ _ h => h) (Or.inl ⟨by rfl,?_⟩) ?_ ?_
                  rotate_left
                  ·intro w'
                   go_simp
                   with_reducible rfl
                  rotate_left
                  ·simp only [Act.put,List.setIfInBounds_toArray,List.set_cons_zero,List.set_cons_succ,i64_w,i32_w,IntKind.wrap_u8]
                   rfl
                  refine pure_ (i:=18) (N:=some 60) (v:=?_) (a':=?_) #[true,true,true,true,true,true,true,true,true,true,true,true,true,true,true,true,true,true,true,false] rfl rfl (any_of HT_.out (by kernel_rfl)) (fun _ _ _ h => h) (Or.inl ⟨by rfl,?_⟩) ?_ ?_
                  rotate_left
                  ·intro w'
                   go_simp
                   with_reducible rfl
                  rotate_left
                  ·simp only [Act.put,List.setIfInBounds_toArray,List.set_cons_zero,List.set_cons_succ,i64_w,i32_w,IntKind.wrap_u8]
                   rfl
                  refine pure_ (i:=19) (N:=some 4) (v:=?_) (a':=?_) #[true,true,true,true,true,true,true,true,true,true,true,true,true,true,true,true,true,true,true,true] rfl rfl (any_of HT_.out (by kernel_rfl)) (fun _ _ _ h => h) (Or.inl ⟨by rfl,?_⟩) ?_ ?_
                  rotate_left
                  ·intro w'
                   go_simp
                   with_reducible rfl
                  rotate_left
                  ·simp only [Act.put,List.setIfInBounds_toArray,List.set_cons_zero,List.set_cons_succ,i64_w,i32_w,IntKind.wrap_u8]
                   rfl
                  refine done_ (done_of HT_.out (by kernel_rfl)) ?_
                  try go_wp2
                  go_ret
                  exact ⟨by first|rfl|(simp [errW_none,errW_some] <;> rfl)|(simp only [← hji37];first|rfl|(simp [errW_none,errW_some] <;> rfl))|(simp [*,errW_none,errW_some] <;> rfl),by repeat (first|(with_reducible first|exact HB.out|apply za_|apply zn_|apply zd_|refine zs_ ?_ GE211.out|refine zs_ ?_ GE213.out)|exact HB.out)⟩
                 ·rw [if_neg c50] at H
                  exact absurd H (by simp)
                ·rw [if_neg c49] at H
                 exact absurd H (by simp)
               ·rw [if_neg c47] at H
                exact absurd H (by simp)
              ·rw [if_neg c46] at H
               exact absurd H (by simp)
             ·rw [if_neg c45] at H
              exact absurd H (by simp)
            ·rw [if_neg c44] at H
             exact absurd H (by simp)
           ·rw [if_neg c43] at H
            exact absurd H (by simp)
          ·rw [if_neg c41] at H
           exact absurd H (by simp)
         ·rw [if_neg c40] at H
          exact absurd H (by simp)
        ·rw [if_neg c39] at H
         exact absurd H (by simp)
       ·rw [if_neg c38] at H
        exact absurd H (by simp)
  ·rw [if_neg c4] at H
   exact absurd H (by simp)
 ·rw [if_neg c3] at H
  exact absurd H (by simp)

end Go.Proofs.YtnmhggdaccbbfaaDoor.MFnExactShowExpr
