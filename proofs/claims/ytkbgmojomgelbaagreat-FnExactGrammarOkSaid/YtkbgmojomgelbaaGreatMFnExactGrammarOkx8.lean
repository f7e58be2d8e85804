import Derived.Test.YtkbgmojomgelbaaGreatMFnExactGrammarOkx0
import Derived.Test.YtkbgmojomgelbaaGreatMFnExactGrammarOkx3
import Derived.Test.YtkbgmojomgelbaaGreatMFnExactGrammarOkx4
import Derived.Test.YtkbgmojomgelbaaGreatMFnExactGrammarOkx5
import Derived.Test.YtkbgmojomgelbaaGreatMFnExactGrammarOkx7
namespace Go.Proofs.YtkbgmojomgelbaaGreat.MFnExactGrammarOk
open Go.RowKit Go.Proofs.YtkbgmojomgelbaaGreatW.PrintWords Go.Proofs.YtkbgmojomgelbaaGreatW.PrintLast Go.Proofs.YtkbgmojomgelbaaGreatW.PrintMore
attribute [local go_sem] max2_int min2_int max_two min_two max_three min_three max_four min_four
set_option linter.unusedVariables false
set_option linter.unusedSimpArgs false
set_option maxHeartbeats 8000000
set_option maxRecDepth 100000
theorem zt8_8 {p : Prop} (h : p := by first|exact HK.out.1|exact (show Kept w _ (fun k_ => P1_ k_) from zt8_2).1) : p := h
theorem zt8_5 {p : Prop} (h : p := by rw [hg];exact (by first|exact HK.out.1|exact (show Kept w _ (fun k_ => P1_ k_) from zt8_1).1)) : p := h
theorem zt8_2 {p : Prop} (h : p := by repeat (first|(with_reducible first|exact HK.out|apply Kept.alloc|apply Kept.drewN|apply Kept.drew|refine Kept.setCell ?_ (.inr GW193.out) _)|exact HK.out)) : p := h
theorem zt8_1 {p : Prop} (h : p := by repeat (first|(with_reducible first|exact HK.out|apply Kept.alloc|apply Kept.drewN|apply Kept.drew)|exact HK.out)) : p := h

def spec_l06Sym.j0 : Nat → List ByteArray → Bool → Int → ByteArray → List (S123) → ByteArray → Option (List ByteArray × Bool)
 |0,_,_,_,_,_,_ => none
 |k + 1,x1,x81,x194000,x194001,x194002,x194003 => if x81 = true then (some (x1,false)) else (if x194003.toList = ([] : List UInt8) then (some (x1,true)) else ((spec_l03Put.f k x1 x194003).bind fun t198 => ((spec_VarName.f k x194003).bind fun t201 => (if t201 = true then ((spec_l03In.f k x1 x194003).bind fun t202 => (if t202 = true then (some (t198,false)) else (some (t198,decide ((t198.length : Int) ≤ 6))))) else (some (t198,false))))))
def spec_l06Sym.f (k : Nat) (a0_0 : Int) (a0_1 : ByteArray) (l0_2 : List (S123)) (a0_3 : ByteArray) (l1 : List ByteArray) (a2 : Int) : Option (List ByteArray × Bool):=if a0_0 = 1 then ((spec_l06Text.f k a0_1).bind fun t194 => (if t194 = true then (if (l0_2.length : Int) = 0 then (some (l1,(a0_3.toList == ([] : List UInt8)))) else (some (l1,false))) else (some (l1,false)))) else (if a0_0 = 2 then ((spec_SetOk.f k a0_1).bind fun t195 => (if t195 = true then (if (l0_2.length : Int) = 0 then (some (l1,(a0_3.toList == ([] : List UInt8)))) else (some (l1,false))) else (some (l1,false)))) else (if a0_0 = 4 then (if a0_1.toList = ([] : List UInt8) then (if a0_3.toList = ([] : List UInt8) then (if (l0_2.length : Int) = 1 then ((spec_l06Args.f k l0_2 l1).bind fun t196 => (some (l1,t196))) else (some (l1,false))) else (some (l1,false))) else (some (l1,false))) else (if a0_0 = 3 then (if (l0_2.length : Int) = a2 then ((spec_l06Args.f k l0_2 l1).bind fun t197 => (spec_l06Sym.j0 k l1 (!t197) a0_0 a0_1 l0_2 a0_3)) else (spec_l06Sym.j0 k l1 true a0_0 a0_1 l0_2 a0_3)) else (some (l1,false)))))
def spec_l06Sym.T3 : Bool × List (List Nat × List Nat):=(true,[([],[]),([],[]),([1],[1]),([2],[2]),([3,3],[3]),([4],[4]),([5,4],[4,5]),([6,4],[4,6]),([7,4],[4,7]),([4,8],[4,8]),([9,4],[9]),([10],[10]),([11,10],[10,11]),([12,10],[10,12]),([10,13],[10,13]),([0,10,0],[0]),([14,15,0,1,2,3,4,5,6,7,8,9,10,11,12,13,14,15],[14])])
def spec_l06Sym.B3 : List Nat:=[0,0,2,6,14,30,62,126,254,510,1022,2046,4094,8190,16382,2047,65535]
theorem spec_l06Sym.tab3 : rtab .any (opsOf Tryz.f36 3) = spec_l06Sym.T3:=by kernel_rfl
theorem spec_l06Sym.bits3 : waitsOk spec_l06Sym.T3.2 spec_l06Sym.B3 = true:=by kernel_rfl
def spec_l06Sym.T5 : Bool × List (List Nat × List Nat):=(true,[([],[]),([],[]),([1],[1]),([2],[2]),([3,3],[3]),([4],[4]),([5,4],[4,5]),([6,4],[4,6]),([7,4],[4,7]),([4,8],[4,8]),([9,4],[9]),([10],[10]),([11,10],[10,11]),([12,10],[10,12]),([10,13],[10,13]),([0,10,0],[0]),([14,15,0,1,2,3,4,5,6,7,8,9,10,11,12,13,14,15],[14])])
def spec_l06Sym.B5 : List Nat:=[0,0,2,6,14,30,62,126,254,510,1022,2046,4094,8190,16382,2047,65535]
theorem spec_l06Sym.tab5 : rtab .any (opsOf Tryz.f36 5) = spec_l06Sym.T5:=by kernel_rfl
theorem spec_l06Sym.bits5 : waitsOk spec_l06Sym.T5.2 spec_l06Sym.B5 = true:=by kernel_rfl
theorem spec_l06Sym.calls (k : Nat) (a0_0 : Int) (a0_1 : ByteArray) (A0_2 : Option Addr) (c0_2 : Nat) (l0_2 : List (S123)) (a0_3 : ByteArray) (P1_ : Nat → Prop) (u9000_ : Value) (l1 : List ByteArray) (a2 : Int) (r1 : List ByteArray) (r2 : Bool) (w0 w : World) (hB : Below w0.heap.size w0 w) (hr0_2 : ∀ W_,Kept w W_ (fun k_ => P1_ k_) → Kd.C k123 W_ A0_2 l0_2.length l0_2) (hc0_2 : l0_2.length ≤ c0_2) (ho1 : Kd.R Kd.string 9 w w0.heap.size P1_ u9000_ l1) (h : spec_l06Sym.f k a0_0 a0_1 l0_2 a0_3 l1 a2 = some (r1,r2)) :
  Calls Tryz.prog 36 #[.agg #[.int .i64 a0_0,.string a0_1,.slice A0_2 l0_2.length c0_2,.string a0_3],u9000_,.int .i64 a2] w fun e w' => ∃ v0_ : Value,e = .returned (.tuple #[v0_,.bool r2]) ∧ Kd.R Kd.string 9 w' w0.heap.size (fun k_ => (P1_ k_ ∨ w.heap.size ≤ k_)) v0_ r1 ∧ Below w0.heap.size w0 w' ∧ Kept w w' (fun k_ => P1_ k_):=by
 have hu76:=Tryz.underlying76
 have HR0_2:=zm_ hr0_2
 have HC0_2:=zm_ hc0_2
 clear hr0_2 hc0_2
 have HO1:=zm_ (show Kd.R Kd.string 9 w w0.heap.size (fun k_ => (P1_ k_ ∨ w.heap.size ≤ k_)) u9000_ l1 from Kd.R_mono ho1 (fun k_ hk => (.inl hk)))
 have HK:=zm_ (Kept.refl w (fun k_ => P1_ k_))
 have HW0:=zm_ hB.size
 have HB:=zm_ hB
 clear hB
 have H : (if a0_0 = 1 then ((spec_l06Text.f k a0_1).bind fun t194 => (if t194 = true then (if (l0_2.length : Int) = 0 then (some (l1,(a0_3.toList == ([] : List UInt8)))) else (some (l1,false))) else (some (l1,false)))) else (if a0_0 = 2 then ((spec_SetOk.f k a0_1).bind fun t195 => (if t195 = true then (if (l0_2.length : Int) = 0 then (some (l1,(a0_3.toList == ([] : List UInt8)))) else (some (l1,false))) else (some (l1,false)))) else (if a0_0 = 4 then (if a0_1.toList = ([] : List UInt8) then (if a0_3.toList = ([] : List UInt8) then (if (l0_2.length : Int) = 1 then ((spec_l06Args.f k l0_2 l1).bind fun t196 => (some (l1,t196))) else (some (l1,false))) else (some (l1,false))) else (some (l1,false))) else (if a0_0 = 3 then (if (l0_2.length : Int) = a2 then ((spec_l06Args.f k l0_2 l1).bind fun t197 => (spec_l06Sym.j0 k l1 (!t197) a0_0 a0_1 l0_2 a0_3)) else (spec_l06Sym.j0 k l1 true a0_0 a0_1 l0_2 a0_3)) else (some (l1,false)))))) = some (r1,r2):=h
 clear h
 by_cases c4 : a0_0 = 1
 ·rw [if_pos c4] at H
  have c4b0 : (a0_0 == 1) = true:=beq_iff_eq.mpr c4
  have c4b1 : (a0_0 != 1) = false:=bne_eq_false_iff_eq.mpr c4
  clear c4
  obtain ⟨t194,A5,H⟩:=zJ_ H
  try dsimp only at H
  by_cases c6 : t194 = true
  rotate_left
  ·replace c6:=Bool.eq_false_iff.mpr c6
   subst c6
   rw [zF_] at H
   simp only [Option.some.injEq,Prod.mk.injEq] at H
   obtain ⟨rfl,rfl⟩:=H
   go_enter Tryz.func36,Tryz.ntmps36
   try go_wp2_with (first|((with_reducible refine gate_dst (N:=3) rfl ?_);(try (refine gate_guard (by rfl) ?_;dsimp only));refine box_event ?hg (N:=3) ?hd (cs:=#[.int .i64 a0_0,.string a0_1,.slice A0_2 l0_2.length c0_2,.string a0_3]) (t:=76) ?hr ?_;(case hd => rfl);(case hg => rfl);(case hr => first|(go_simp;done)|(go_simp;rfl));intro gb193 hg w14 hbox hb;have n0_:=zm_ (Kd.R_below zO_ hb);have n1_:=zm_ (Kept.below (S:=(fun k_ => P1_ k_)) zt8_1 hb);have n2_:=zm_ (below_step zB_ hb);have n3_:=zm_ (hbox);have n4_:=zm_ ((zt8_5 : w.heap.size ≤ gb193));have n5_:=zm_ ((by rw [hg];exact (below_size zB_) : w0.heap.size ≤ gb193));clear HO1;clear HK;clear HB;have HO1:=n0_;have HK:=n1_;have HB:=n2_;have BK193:=n3_;have GW193:=n4_;have GE193:=n5_;clear n0_ n1_ n2_ n3_ n4_ n5_;clear hb hbox hg;have hcz15_0 : w14.cell? ⟨gb193,0,none⟩ = some (.int .i64 a0_0):=(zc_ BK193.out 0).trans rfl;have hcz15_1 : w14.cell? ⟨gb193,1,none⟩ = some (.string a0_1):=(zc_ BK193.out 1).trans rfl;have hcz15_2 : w14.cell? ⟨gb193,2,none⟩ = some (.slice A0_2 l0_2.length c0_2):=(zc_ BK193.out 2).trans rfl;have hcz15_3 : w14.cell? ⟨gb193,3,none⟩ = some (.string a0_3):=(zc_ BK193.out 3).trans rfl;have hfz15_0:=zf_ BK193.out 0;have hfz15_1:=zf_ BK193.out 1;have hfz15_2:=zf_ BK193.out 2;have hfz15_3:=zf_ BK193.out 3))
   have n0_:=zm_ (Kd.R_drew HO1.out)
   have n1_:=zm_ (zr_ BK193.out)
   have n2_:=zm_ (Kept.drew HK.out)
   have n3_:=zm_ (zd_ HB.out)
   clear HO1
   clear BK193
   clear HK
   clear HB
   have HO1:=n0_
   have BK193:=n1_
   have HK:=n2_
   have HB:=n3_
   clear n0_ n1_ n2_ n3_
   refine start_ (n:=17) (S:=fun w' => w'.cell? ⟨gb193,0,none⟩ = some (.int .i64 a0_0) ∧ w'.cell? ⟨gb193,1,none⟩ = some (.string a0_1) ∧ w'.cell? ⟨gb193,2,none⟩ = some (.slice A0_2 l0_2.length c0_2) ∧ w'.cell? ⟨gb193,3,none⟩ = some (.string a0_3)) (ds:=[]) #[false,false,false,false,false,false,false,false,false,false,false,false,false,false,false,false,false] (by kernel_rfl) rfl rfl ⟨(zc_ BK193.out 0).trans rfl,(zc_ BK193.out 1).trans rfl,(zc_ BK193.out 2).trans rfl,(zc_ BK193.out 3).trans rfl⟩ (fun hHeld => ?_);refine with_tabW spec_l06Sym.tab3 spec_l06Sym.bits3 (fun HT_ HW_ => ?_)
   generalize w14.drew = w16 at HO1 BK193 HK HB hHeld ⊢
   refine zp_ 0 (some 13) ?_
   refine zp_ 1 (some 14) ?_
   refine zk2_ 2 (some 15) ?_
   refine one_ (i:=3) (N:=some 16) #[true,true,true,true,false,false,false,false,false,false,false,false,false,false,false,false,false] rfl rfl (one_of HT_.out (by kernel_rfl)) (by decide) (fun K hK => ?_)
   refine goes_ Tryz.func65 (by kernel_rfl) rfl #[.string a0_1] (by rfl) rfl rfl zq_ ?_
   with_reducible refine (spec_l06Text.calls k a0_1 false _ A5.out).mono ?_
   rintro e w' ⟨rfl,⟨nd,rfl⟩⟩
   refine ⟨_,rfl,?_⟩
   refine hK.out _ _ ⟨(zc_ BK193.out 0).trans rfl,(zc_ BK193.out 1).trans rfl,(zc_ BK193.out 2).trans rfl,(zc_ BK193.out 3).trans rfl⟩ (fun hHeld => ?_)
   clear hK K
   refine zm2_ ?_
   refine zp_ 4 (some 17) ?_
   refine pure_ (i:=5) (N:=some 18) (v:=undef) (a':=?_) #[true,true,true,true,true,true,false,false,false,false,false,false,false,false,false,false,false] rfl rfl (any_of HT_.out (by kernel_rfl)) (fun _ _ _ h => h) (Or.inr ⟨by rfl,rfl⟩) ?_ ?_
   rotate_left
   ·simp only [Act.put,List.setIfInBounds_toArray,List.set_cons_zero,List.set_cons_succ,i64_w,i32_w,IntKind.wrap_u8]
    rfl
   refine pure_ (i:=6) (N:=some 19) (v:=undef) (a':=?_) #[true,true,true,true,true,true,true,false,false,false,false,false,false,false,false,false,false] rfl rfl (any_of HT_.out (by kernel_rfl)) (fun _ _ _ h => h) (Or.inr ⟨by rfl,rfl⟩) ?_ ?_
   rotate_left
   ·simp only [Act.put,List.setIfInBounds_toArray,List.set_cons_zero,List.set_cons_succ,i64_w,i32_w,IntKind.wrap_u8]
    rfl
   refine pure_ (i:=7) (N:=some 20) (v:=undef) (a':=?_) #[true,true,true,true,true,true,true,true,false,false,false,false,false,false,false,false,false] rfl rfl (any_of HT_.out (by kernel_rfl)) (fun _ _ _ h => h) (Or.inr ⟨by rfl,rfl⟩) ?_ ?_
   rotate_left
   ·simp only [Act.put,List.setIfInBounds_toArray,List.set_cons_zero,List.set_cons_succ,i64_w,i32_w,IntKind.wrap_u8]
    rfl
   refine pure_ (i:=8) (N:=some 21) (v:=undef) (a':=?_) #[true,true,true,true,true,true,true,true,true,false,false,false,false,false,false,false,false] rfl rfl (any_of HT_.out (by kernel_rfl)) (fun _ _ _ h => h) (Or.inr ⟨by rfl,rfl⟩) ?_ ?_
   rotate_left
   ·simp only [Act.put,List.setIfInBounds_toArray,List.set_cons_zero,List.set_cons_succ,i64_w,i32_w,IntKind.wrap_u8]
    rfl
   refine zp_ 9 (some 22) ?_
   refine zp_ 10 (some 23) ?_
   refine pure_ (i:=11) (N:=some 24) (v:=undef) (a':=?_) #[true,true,true,true,true,true,true,true,true,true,true,true,false,false,false,false,false] rfl rfl (any_of HT_.out (by kernel_rfl)) (fun _ _ _ h => h) (Or.inr ⟨by rfl,rfl⟩) ?_ ?_
   rotate_left
   ·simp only [Act.put,List.setIfInBounds_toArray,List.set_cons_zero,List.set_cons_succ,i64_w,i32_w,IntKind.wrap_u8]
    rfl
   refine pure_ (i:=12) (N:=some 25) (v:=undef) (a':=?_) #[true,true,true,true,true,true,true,true,true,true,true,true,true,false,false,false,false] rfl rfl (any_of HT_.out (by kernel_rfl)) (fun _ _ _ h => h) (Or.inr ⟨by rfl,rfl⟩) ?_ ?_
   rotate_left
   ·simp only [Act.put,List.setIfInBounds_toArray,List.set_cons_zero,List.set_cons_succ,i64_w,i32_w,IntKind.wrap_u8]
    rfl
   refine pure_ (i:=13) (N:=some 26) (v:=undef) (a':=?_) #[true,true,true,true,true,true,true,true,true,true,true,true,true,true,false,false,false] rfl rfl (any_of HT_.out (by kernel_rfl)) (fun _ _ _ h => h) (Or.inr ⟨by rfl,rfl⟩) ?_ ?_
   rotate_left
   ·simp only [Act.put,List.setIfInBounds_toArray,List.set_cons_zero,List.set_cons_succ,i64_w,i32_w,IntKind.wrap_u8]
    rfl
   refine zp_ 14 (some 27) ?_
   refine zp_ 15 (some 6) ?_
   refine zp_ 16 (some 7) ?_
   refine done_ (done_of HT_.out (by kernel_rfl)) ?_
   try go_wp2
   go_ret2
   exact ⟨_,by first|rfl|(simp [errW_none,errW_some] <;> rfl)|(simp [*,errW_none,errW_some] <;> rfl),by (with_reducible repeat (first|apply Kd.R_alloc|apply Kd.R_drewN|apply Kd.R_drew));exact HO1.out,zG_,by repeat (first|(with_reducible first|exact HK.out|apply Kept.alloc|apply Kept.drewN|apply Kept.drew|refine Kept.setCell ?_ (.inr GW193.out) _)|exact HK.out)⟩
  subst c6
  rw [if_pos rfl] at H
  by_cases c7 : (l0_2.length : Int) = 0
  ·rw [if_pos c7] at H
   have c7b0 : ((l0_2.length : Int) == 0) = true:=beq_iff_eq.mpr c7
   have c7b1 : ((l0_2.length : Int) != 0) = false:=bne_eq_false_iff_eq.mpr c7
   clear c7
   simp only [Option.some.injEq,Prod.mk.injEq] at H
   obtain ⟨rfl,rfl⟩:=H
   go_enter Tryz.func36,Tryz.ntmps36
   try go_wp2_with (first|((with_reducible refine gate_dst (N:=3) rfl ?_);(try (refine gate_guard (by rfl) ?_;dsimp only));refine box_event ?hg (N:=3) ?hd (cs:=#[.int .i64 a0_0,.string a0_1,.slice A0_2 l0_2.length c0_2,.string a0_3]) (t:=76) ?hr ?_;(case hd => rfl);(case hg => rfl);(case hr => first|(go_simp;done)|(go_simp;rfl));intro gb193 hg w8 hbox hb;have n0_:=zm_ (Kd.R_below zO_ hb);have n1_:=zm_ (Kept.below (S:=(fun k_ => P1_ k_)) zt8_1 hb);have n2_:=zm_ (below_step zB_ hb);have n3_:=zm_ (hbox);have n4_:=zm_ ((zt8_5 : w.heap.size ≤ gb193));have n5_:=zm_ ((by rw [hg];exact (below_size zB_) : w0.heap.size ≤ gb193));clear HO1;clear HK;clear HB;have HO1:=n0_;have HK:=n1_;have HB:=n2_;have BK193:=n3_;have GW193:=n4_;have GE193:=n5_;clear n0_ n1_ n2_ n3_ n4_ n5_;clear hb hbox hg;have hcz9_0 : w8.cell? ⟨gb193,0,none⟩ = some (.int .i64 a0_0):=(zc_ BK193.out 0).trans rfl;have hcz9_1 : w8.cell? ⟨gb193,1,none⟩ = some (.string a0_1):=(zc_ BK193.out 1).trans rfl;have hcz9_2 : w8.cell? ⟨gb193,2,none⟩ = some (.slice A0_2 l0_2.length c0_2):=(zc_ BK193.out 2).trans rfl;have hcz9_3 : w8.cell? ⟨gb193,3,none⟩ = some (.string a0_3):=(zc_ BK193.out 3).trans rfl;have hfz9_0:=zf_ BK193.out 0;have hfz9_1:=zf_ BK193.out 1;have hfz9_2:=zf_ BK193.out 2;have hfz9_3:=zf_ BK193.out 3))
   have n0_:=zm_ (Kd.R_drew HO1.out)
   have n1_:=zm_ (zr_ BK193.out)
   have n2_:=zm_ (Kept.drew HK.out)
   have n3_:=zm_ (zd_ HB.out)
   clear HO1
   clear BK193
   clear HK
   clear HB
   have HO1:=n0_
   have BK193:=n1_
   have HK:=n2_
   have HB:=n3_
   clear n0_ n1_ n2_ n3_
   refine start_ (n:=17) (S:=fun w' => w'.cell? ⟨gb193,0,none⟩ = some (.int .i64 a0_0) ∧ w'.cell? ⟨gb193,1,none⟩ = some (.string a0_1) ∧ w'.cell? ⟨gb193,2,none⟩ = some (.slice A0_2 l0_2.length c0_2) ∧ w'.cell? ⟨gb193,3,none⟩ = some (.string a0_3)) (ds:=[]) #[false,false,false,false,false,false,false,false,false,false,false,false,false,false,false,false,false] (by kernel_rfl) rfl rfl ⟨(zc_ BK193.out 0).trans rfl,(zc_ BK193.out 1).trans rfl,(zc_ BK193.out 2).trans rfl,(zc_ BK193.out 3).trans rfl⟩ (fun hHeld => ?_);refine with_tabW spec_l06Sym.tab3 spec_l06Sym.bits3 (fun HT_ HW_ => ?_)
   generalize w8.drew = w10 at HO1 BK193 HK HB hHeld ⊢
   refine zp_ 0 (some 13) ?_
   refine zp_ 1 (some 14) ?_
   refine zk2_ 2 (some 15) ?_
   refine one_ (i:=3) (N:=some 16) #[true,true,true,true,false,false,false,false,false,false,false,false,false,false,false,false,false] rfl rfl (one_of HT_.out (by kernel_rfl)) (by decide) (fun K hK => ?_)
   refine goes_ Tryz.func65 (by kernel_rfl) rfl #[.string a0_1] (by rfl) rfl rfl zq_ ?_
   with_reducible refine (spec_l06Text.calls k a0_1 true _ A5.out).mono ?_
   rintro e w' ⟨rfl,⟨nd,rfl⟩⟩
   refine ⟨_,rfl,?_⟩
   refine hK.out _ _ ⟨(zc_ BK193.out 0).trans rfl,(zc_ BK193.out 1).trans rfl,(zc_ BK193.out 2).trans rfl,(zc_ BK193.out 3).trans rfl⟩ (fun hHeld => ?_)
   clear hK K
   refine zm2_ ?_
   refine zp_ 4 (some 17) ?_
   refine zp_ 5 (some 18) ?_
   refine zk2_ 6 (some 19) ?_
   refine zp_ 7 (some 20) ?_
   refine zp_ 8 (some 21) ?_
   refine zp_ 9 (some 22) ?_
   refine zp_ 10 (some 23) ?_
   refine zp_ 11 (some 24) ?_
   refine zp_ 15 (some 6) ?_
   refine zk2_ 12 (some 25) ?_
   refine zp_ 13 (some 26) ?_
   refine zp_ 14 (some 27) ?_
   refine zp_ 16 (some 7) ?_
   refine done_ (done_of HT_.out (by kernel_rfl)) ?_
   try go_wp2
   go_ret2
   exact ⟨_,by first|rfl|(simp [errW_none,errW_some] <;> rfl)|(simp [*,errW_none,errW_some] <;> rfl),by (with_reducible repeat (first|apply Kd.R_alloc|apply Kd.R_drewN|apply Kd.R_drew));exact HO1.out,zG_,by repeat (first|(with_reducible first|exact HK.out|apply Kept.alloc|apply Kept.drewN|apply Kept.drew|refine Kept.setCell ?_ (.inr GW193.out) _)|exact HK.out)⟩
  rw [if_neg c7] at H
  have c7b0 : ((l0_2.length : Int) == 0) = false:=beq_eq_false_iff_ne.mpr c7
  have c7b1 : ((l0_2.length : Int) != 0) = true:=bne_iff_ne.mpr c7
  have c7b2 : ¬ (l0_2 = []):=fun h_ => c7 (by rw [h_];rfl)
  simp only [Option.some.injEq,Prod.mk.injEq] at H
  obtain ⟨rfl,rfl⟩:=H
  go_enter Tryz.func36,Tryz.ntmps36
  try go_wp2_with (first|((with_reducible refine gate_dst (N:=3) rfl ?_);(try (refine gate_guard (by rfl) ?_;dsimp only));refine box_event ?hg (N:=3) ?hd (cs:=#[.int .i64 a0_0,.string a0_1,.slice A0_2 l0_2.length c0_2,.string a0_3]) (t:=76) ?hr ?_;(case hd => rfl);(case hg => rfl);(case hr => first|(go_simp;done)|(go_simp;rfl));intro gb193 hg w11 hbox hb;have n0_:=zm_ (Kd.R_below zO_ hb);have n1_:=zm_ (Kept.below (S:=(fun k_ => P1_ k_)) zt8_1 hb);have n2_:=zm_ (below_step zB_ hb);have n3_:=zm_ (hbox);have n4_:=zm_ ((zt8_5 : w.heap.size ≤ gb193));have n5_:=zm_ ((by rw [hg];exact (below_size zB_) : w0.heap.size ≤ gb193));clear HO1;clear HK;clear HB;have HO1:=n0_;have HK:=n1_;have HB:=n2_;have BK193:=n3_;have GW193:=n4_;have GE193:=n5_;clear n0_ n1_ n2_ n3_ n4_ n5_;clear hb hbox hg;have hcz12_0 : w11.cell? ⟨gb193,0,none⟩ = some (.int .i64 a0_0):=(zc_ BK193.out 0).trans rfl;have hcz12_1 : w11.cell? ⟨gb193,1,none⟩ = some (.string a0_1):=(zc_ BK193.out 1).trans rfl;have hcz12_2 : w11.cell? ⟨gb193,2,none⟩ = some (.slice A0_2 l0_2.length c0_2):=(zc_ BK193.out 2).trans rfl;have hcz12_3 : w11.cell? ⟨gb193,3,none⟩ = some (.string a0_3):=(zc_ BK193.out 3).trans rfl;have hfz12_0:=zf_ BK193.out 0;have hfz12_1:=zf_ BK193.out 1;have hfz12_2:=zf_ BK193.out 2;have hfz12_3:=zf_ BK193.out 3))
  have n0_:=zm_ (Kd.R_drew HO1.out)
  have n1_:=zm_ (zr_ BK193.out)
  have n2_:=zm_ (Kept.drew HK.out)
  have n3_:=zm_ (zd_ HB.out)
  clear HO1
  clear BK193
  clear HK
  clear HB
  have HO1:=n0_
  have BK193:=n1_
  have HK:=n2_
  have HB:=n3_
  clear n0_ n1_ n2_ n3_
  refine start_ (n:=17) (S:=fun w' => w'.cell? ⟨gb193,0,none⟩ = some (.int .i64 a0_0) ∧ w'.cell? ⟨gb193,1,none⟩ = some (.string a0_1) ∧ w'.cell? ⟨gb193,2,none⟩ = some (.slice A0_2 l0_2.length c0_2) ∧ w'.cell? ⟨gb193,3,none⟩ = some (.string a0_3)) (ds:=[]) #[false,false,false,false,false,false,false,false,false,false,false,false,false,false,false,false,false] (by kernel_rfl) rfl rfl ⟨(zc_ BK193.out 0).trans rfl,(zc_ BK193.out 1).trans rfl,(zc_ BK193.out 2).trans rfl,(zc_ BK193.out 3).trans rfl⟩ (fun hHeld => ?_);refine with_tabW spec_l06Sym.tab3 spec_l06Sym.bits3 (fun HT_ HW_ => ?_)
  generalize w11.drew = w13 at HO1 BK193 HK HB hHeld ⊢
  refine zp_ 0 (some 13) ?_
  refine zp_ 1 (some 14) ?_
  refine zk2_ 2 (some 15) ?_
  refine one_ (i:=3) (N:=some 16) #[true,true,true,true,false,false,false,false,false,false,false,false,false,false,false,false,false] rfl rfl (one_of HT_.out (by kernel_rfl)) (by decide) (fun K hK => ?_)
  refine goes_ Tryz.func65 (by kernel_rfl) rfl #[.string a0_1] (by rfl) rfl rfl zq_ ?_
  with_reducible refine (spec_l06Text.calls k a0_1 true _ A5.out).mono ?_
  rintro e w' ⟨rfl,⟨nd,rfl⟩⟩
  refine ⟨_,rfl,?_⟩
  refine hK.out _ _ ⟨(zc_ BK193.out 0).trans rfl,(zc_ BK193.out 1).trans rfl,(zc_ BK193.out 2).trans rfl,(zc_ BK193.out 3).trans rfl⟩ (fun hHeld => ?_)
  clear hK K
  refine zm2_ ?_
  refine zp_ 4 (some 17) ?_
  refine zp_ 5 (some 18) ?_
  refine zk2_ 6 (some 19) ?_
  refine zp_ 7 (some 20) ?_
  refine zp_ 8 (some 21) ?_
  refine zp_ 9 (some 22) ?_
  refine zp_ 10 (some 23) ?_
  refine pure_ (i:=11) (N:=some 24) (v:=undef) (a':=?_) #[true,true,true,true,true,true,true,true,true,true,true,true,false,false,false,false,false] rfl rfl (any_of HT_.out (by kernel_rfl)) (fun _ _ _ h => h) (Or.inr ⟨by rfl,rfl⟩) ?_ ?_
  rotate_left
  ·simp only [Act.put,List.setIfInBounds_toArray,List.set_cons_zero,List.set_cons_succ,i64_w,i32_w,IntKind.wrap_u8]
   rfl
  refine pure_ (i:=12) (N:=some 25) (v:=undef) (a':=?_) #[true,true,true,true,true,true,true,true,true,true,true,true,true,false,false,false,false] rfl rfl (any_of HT_.out (by kernel_rfl)) (fun _ _ _ h => h) (Or.inr ⟨by rfl,rfl⟩) ?_ ?_
  rotate_left
  ·simp only [Act.put,List.setIfInBounds_toArray,List.set_cons_zero,List.set_cons_succ,i64_w,i32_w,IntKind.wrap_u8]
   rfl
  refine pure_ (i:=13) (N:=some 26) (v:=undef) (a':=?_) #[true,true,true,true,true,true,true,true,true,true,true,true,true,true,false,false,false] rfl rfl (any_of HT_.out (by kernel_rfl)) (fun _ _ _ h => h) (Or.inr ⟨by rfl,rfl⟩) ?_ ?_
  rotate_left
  ·simp only [Act.put,List.setIfInBounds_toArray,List.set_cons_zero,List.set_cons_succ,i64_w,i32_w,IntKind.wrap_u8]
   rfl
  refine zp_ 14 (some 27) ?_
  refine zp_ 15 (some 6) ?_
  refine zp_ 16 (some 7) ?_
  refine done_ (done_of HT_.out (by kernel_rfl)) ?_
  try go_wp2
  go_ret2
  exact ⟨_,by first|rfl|(simp [errW_none,errW_some] <;> rfl)|(simp [*,errW_none,errW_some] <;> rfl),by (with_reducible repeat (first|apply Kd.R_alloc|apply Kd.R_drewN|apply Kd.R_drew));exact HO1.out,zG_,by repeat (first|(with_reducible first|exact HK.out|apply Kept.alloc|apply Kept.drewN|apply Kept.drew|refine Kept.setCell ?_ (.inr GW193.out) _)|exact HK.out)⟩
 rw [if_neg c4] at H
 have c4b0 : (a0_0 == 1) = false:=beq_eq_false_iff_ne.mpr c4
 have c4b1 : (a0_0 != 1) = true:=bne_iff_ne.mpr c4
 by_cases c17 : a0_0 = 2
 ·rw [if_pos c17] at H
  have c17b0 : (a0_0 == 2) = true:=beq_iff_eq.mpr c17
  have c17b1 : (a0_0 != 2) = false:=bne_eq_false_iff_eq.mpr c17
  clear c17
  obtain ⟨t195,A18,H⟩:=zJ_ H
  try dsimp only at H
  by_cases c19 : t195 = true
  rotate_left
  ·replace c19:=Bool.eq_false_iff.mpr c19
   subst c19
   rw [zF_] at H
   simp only [Option.some.injEq,Prod.mk.injEq] at H
   obtain ⟨rfl,rfl⟩:=H
   go_enter Tryz.func36,Tryz.ntmps36
   try go_wp2_with (first|((with_reducible refine gate_dst (N:=3) rfl ?_);(try (refine gate_guard (by rfl) ?_;dsimp only));refine box_event ?hg (N:=3) ?hd (cs:=#[.int .i64 a0_0,.string a0_1,.slice A0_2 l0_2.length c0_2,.string a0_3]) (t:=76) ?hr ?_;(case hd => rfl);(case hg => rfl);(case hr => first|(go_simp;done)|(go_simp;rfl));intro gb193 hg w29 hbox hb;have n0_:=zm_ (Kd.R_below zO_ hb);have n1_:=zm_ (Kept.below (S:=(fun k_ => P1_ k_)) zt8_1 hb);have n2_:=zm_ (below_step zB_ hb);have n3_:=zm_ (hbox);have n4_:=zm_ ((zt8_5 : w.heap.size ≤ gb193));have n5_:=zm_ ((by rw [hg];exact (below_size zB_) : w0.heap.size ≤ gb193));clear HO1;clear HK;clear HB;have HO1:=n0_;have HK:=n1_;have HB:=n2_;have BK193:=n3_;have GW193:=n4_;have GE193:=n5_;clear n0_ n1_ n2_ n3_ n4_ n5_;clear hb hbox hg;have hcz30_0 : w29.cell? ⟨gb193,0,none⟩ = some (.int .i64 a0_0):=(zc_ BK193.out 0).trans rfl;have hcz30_1 : w29.cell? ⟨gb193,1,none⟩ = some (.string a0_1):=(zc_ BK193.out 1).trans rfl;have hcz30_2 : w29.cell? ⟨gb193,2,none⟩ = some (.slice A0_2 l0_2.length c0_2):=(zc_ BK193.out 2).trans rfl;have hcz30_3 : w29.cell? ⟨gb193,3,none⟩ = some (.string a0_3):=(zc_ BK193.out 3).trans rfl;have hfz30_0:=zf_ BK193.out 0;have hfz30_1:=zf_ BK193.out 1;have hfz30_2:=zf_ BK193.out 2;have hfz30_3:=zf_ BK193.out 3))
   have n0_:=zm_ (Kd.R_drew HO1.out)
   have n1_:=zm_ (zr_ BK193.out)
   have n2_:=zm_ (Kept.drew HK.out)
   have n3_:=zm_ (zd_ HB.out)
   clear HO1
   clear BK193
   clear HK
   clear HB
   have HO1:=n0_
   have BK193:=n1_
   have HK:=n2_
   have HB:=n3_
   clear n0_ n1_ n2_ n3_
   refine start_ (n:=17) (S:=fun w' => w'.cell? ⟨gb193,0,none⟩ = some (.int .i64 a0_0) ∧ w'.cell? ⟨gb193,1,none⟩ = some (.string a0_1) ∧ w'.cell? ⟨gb193,2,none⟩ = some (.slice A0_2 l0_2.length c0_2) ∧ w'.cell? ⟨gb193,3,none⟩ = some (.string a0_3)) (ds:=[]) #[false,false,false,false,false,false,false,false,false,false,false,false,false,false,false,false,false] (by kernel_rfl) rfl rfl ⟨(zc_ BK193.out 0).trans rfl,(zc_ BK193.out 1).trans rfl,(zc_ BK193.out 2).trans rfl,(zc_ BK193.out 3).trans rfl⟩ (fun hHeld => ?_);refine with_tabW spec_l06Sym.tab5 spec_l06Sym.bits5 (fun HT_ HW_ => ?_)
   generalize w29.drew = w31 at HO1 BK193 HK HB hHeld ⊢
   refine zp_ 0 (some 30) ?_
   refine zp_ 1 (some 31) ?_
   refine zk2_ 2 (some 32) ?_
   refine one_ (i:=3) (N:=some 33) #[true,true,true,true,false,false,false,false,false,false,false,false,false,false,false,false,false] rfl rfl (one_of HT_.out (by kernel_rfl)) (by decide) (fun K hK => ?_)
   refine goes_ Tryz.func66 (by kernel_rfl) rfl #[.string a0_1] (by rfl) rfl rfl zq_ ?_
   with_reducible refine (spec_SetOk.calls k a0_1 false _ A18.out).mono ?_
   rintro e w32 ⟨rfl,hb⟩
   refine ⟨_,rfl,?_⟩
   have n0_:=zm_ (Kd.R_below zO_ hb)
   have n1_:=zm_ (blk_below (g:=gb193) (o:=.cells #[.int .i64 a0_0,.string a0_1,.slice A0_2 l0_2.length c0_2,.string a0_3] 76 (0,0)) zK_ hb)
   have n2_:=zm_ (Kept.below (S:=(fun k_ => P1_ k_)) zt8_2 hb)
   have n3_:=zm_ (below_step zG_ hb)
   clear HO1
   clear BK193
   clear HK
   clear HB
   have HO1:=n0_
   have BK193:=n1_
   have HK:=n2_
   have HB:=n3_
   clear n0_ n1_ n2_ n3_
   (try clear hb)
   (try clear hb2)
   (try clear hk)
   (try clear hi)
   refine hK.out _ _ ⟨(zc_ BK193.out 0).trans rfl,(zc_ BK193.out 1).trans rfl,(zc_ BK193.out 2).trans rfl,(zc_ BK193.out 3).trans rfl⟩ (fun hHeld => ?_)
   clear hK K
   refine zm2_ ?_
   refine zp_ 4 (some 34) ?_
   refine pure_ (i:=5) (N:=some 35) (v:=undef) (a':=?_) #[true,true,true,true,true,true,false,false,false,false,false,false,false,false,false,false,false] rfl rfl (any_of HT_.out (by kernel_rfl)) (fun _ _ _ h => h) (Or.inr ⟨by rfl,rfl⟩) ?_ ?_
   rotate_left
   ·simp only [Act.put,List.setIfInBounds_toArray,List.set_cons_zero,List.set_cons_succ,i64_w,i32_w,IntKind.wrap_u8]
    rfl
   refine pure_ (i:=6) (N:=some 36) (v:=undef) (a':=?_) #[true,true,true,true,true,true,true,false,false,false,false,false,false,false,false,false,false] rfl rfl (any_of HT_.out (by kernel_rfl)) (fun _ _ _ h => h) (Or.inr ⟨by rfl,rfl⟩) ?_ ?_
   rotate_left
   ·simp only [Act.put,List.setIfInBounds_toArray,List.set_cons_zero,List.set_cons_succ,i64_w,i32_w,IntKind.wrap_u8]
    rfl
   refine pure_ (i:=7) (N:=some 37) (v:=undef) (a':=?_) #[true,true,true,true,true,true,true,true,false,false,false,false,false,false,false,false,false] rfl rfl (any_of HT_.out (by kernel_rfl)) (fun _ _ _ h => h) (Or.inr ⟨by rfl,rfl⟩) ?_ ?_
   rotate_left
   ·simp only [Act.put,List.setIfInBounds_toArray,List.set_cons_zero,List.set_cons_succ,i64_w,i32_w,IntKind.wrap_u8]
    rfl
   refine pure_ (i:=8) (N:=some 38) (v:=undef) (a':=?_) #[true,true,true,true,true,true,true,true,true,false,false,false,false,false,false,false,false] rfl rfl (any_of HT_.out (by kernel_rfl)) (fun _ _ _ h => h) (Or.inr ⟨by rfl,rfl⟩) ?_ ?_
   rotate_left
   ·simp only [Act.put,List.setIfInBounds_toArray,List.set_cons_zero,List.set_cons_succ,i64_w,i32_w,IntKind.wrap_u8]
    rfl
   refine zp_ 9 (some 39) ?_
   refine zp_ 10 (some 40) ?_
   refine pure_ (i:=11) (N:=some 41) (v:=undef) (a':=?_) #[true,true,true,true,true,true,true,true,true,true,true,true,false,false,false,false,false] rfl rfl (any_of HT_.out (by kernel_rfl)) (fun _ _ _ h => h) (Or.inr ⟨by rfl,rfl⟩) ?_ ?_
   rotate_left
   ·simp only [Act.put,List.setIfInBounds_toArray,List.set_cons_zero,List.set_cons_succ,i64_w,i32_w,IntKind.wrap_u8]
    rfl
   refine pure_ (i:=12) (N:=some 42) (v:=undef) (a':=?_) #[true,true,true,true,true,true,true,true,true,true,true,true,true,false,false,false,false] rfl rfl (any_of HT_.out (by kernel_rfl)) (fun _ _ _ h => h) (Or.inr ⟨by rfl,rfl⟩) ?_ ?_
   rotate_left
   ·simp only [Act.put,List.setIfInBounds_toArray,List.set_cons_zero,List.set_cons_succ,i64_w,i32_w,IntKind.wrap_u8]
    rfl
   refine pure_ (i:=13) (N:=some 43) (v:=undef) (a':=?_) #[true,true,true,true,true,true,true,true,true,true,true,true,true,true,false,false,false] rfl rfl (any_of HT_.out (by kernel_rfl)) (fun _ _ _ h => h) (Or.inr ⟨by rfl,rfl⟩) ?_ ?_
   rotate_left
   ·simp only [Act.put,List.setIfInBounds_toArray,List.set_cons_zero,List.set_cons_succ,i64_w,i32_w,IntKind.wrap_u8]
    rfl
   refine zp_ 14 (some 44) ?_
   refine zp_ 15 (some 6) ?_
   refine zp_ 16 (some 7) ?_
   refine done_ (done_of HT_.out (by kernel_rfl)) ?_
   try go_wp2
   go_ret2
   exact ⟨_,by first|rfl|(simp [errW_none,errW_some] <;> rfl)|(simp [*,errW_none,errW_some] <;> rfl),by (with_reducible repeat (first|apply Kd.R_alloc|apply Kd.R_drewN|apply Kd.R_drew));exact HO1.out,zG_,by repeat (first|(with_reducible first|exact HK.out|apply Kept.alloc|apply Kept.drewN|apply Kept.drew|refine Kept.setCell ?_ (.inr GW193.out) _)|exact HK.out)⟩
  subst c19
  rw [if_pos rfl] at H
  by_cases c20 : (l0_2.length : Int) = 0
  ·rw [if_pos c20] at H
   have c20b0 : ((l0_2.length : Int) == 0) = true:=beq_iff_eq.mpr c20
   have c20b1 : ((l0_2.length : Int) != 0) = false:=bne_eq_false_iff_eq.mpr c20
   clear c20
   simp only [Option.some.injEq,Prod.mk.injEq] at H
   obtain ⟨rfl,rfl⟩:=H
   go_enter Tryz.func36,Tryz.ntmps36
   try go_wp2_with (first|((with_reducible refine gate_dst (N:=3) rfl ?_);(try (refine gate_guard (by rfl) ?_;dsimp only));refine box_event ?hg (N:=3) ?hd (cs:=#[.int .i64 a0_0,.string a0_1,.slice A0_2 l0_2.length c0_2,.string a0_3]) (t:=76) ?hr ?_;(case hd => rfl);(case hg => rfl);(case hr => first|(go_simp;done)|(go_simp;rfl));intro gb193 hg w21 hbox hb;have n0_:=zm_ (Kd.R_below zO_ hb);have n1_:=zm_ (Kept.below (S:=(fun k_ => P1_ k_)) zt8_1 hb);have n2_:=zm_ (below_step zB_ hb);have n3_:=zm_ (hbox);have n4_:=zm_ ((zt8_5 : w.heap.size ≤ gb193));have n5_:=zm_ ((by rw [hg];exact (below_size zB_) : w0.heap.size ≤ gb193));clear HO1;clear HK;clear HB;have HO1:=n0_;have HK:=n1_;have HB:=n2_;have BK193:=n3_;have GW193:=n4_;have GE193:=n5_;clear n0_ n1_ n2_ n3_ n4_ n5_;clear hb hbox hg;have hcz22_0 : w21.cell? ⟨gb193,0,none⟩ = some (.int .i64 a0_0):=(zc_ BK193.out 0).trans rfl;have hcz22_1 : w21.cell? ⟨gb193,1,none⟩ = some (.string a0_1):=(zc_ BK193.out 1).trans rfl;have hcz22_2 : w21.cell? ⟨gb193,2,none⟩ = some (.slice A0_2 l0_2.length c0_2):=(zc_ BK193.out 2).trans rfl;have hcz22_3 : w21.cell? ⟨gb193,3,none⟩ = some (.string a0_3):=(zc_ BK193.out 3).trans rfl;have hfz22_0:=zf_ BK193.out 0;have hfz22_1:=zf_ BK193.out 1;have hfz22_2:=zf_ BK193.out 2;have hfz22_3:=zf_ BK193.out 3))
   have n0_:=zm_ (Kd.R_drew HO1.out)
   have n1_:=zm_ (zr_ BK193.out)
   have n2_:=zm_ (Kept.drew HK.out)
   have n3_:=zm_ (zd_ HB.out)
   clear HO1
   clear BK193
   clear HK
   clear HB
   have HO1:=n0_
   have BK193:=n1_
   have HK:=n2_
   have HB:=n3_
   clear n0_ n1_ n2_ n3_
   refine start_ (n:=17) (S:=fun w' => w'.cell? ⟨gb193,0,none⟩ = some (.int .i64 a0_0) ∧ w'.cell? ⟨gb193,1,none⟩ = some (.string a0_1) ∧ w'.cell? ⟨gb193,2,none⟩ = some (.slice A0_2 l0_2.length c0_2) ∧ w'.cell? ⟨gb193,3,none⟩ = some (.string a0_3)) (ds:=[]) #[false,false,false,false,false,false,false,false,false,false,false,false,false,false,false,false,false] (by kernel_rfl) rfl rfl ⟨(zc_ BK193.out 0).trans rfl,(zc_ BK193.out 1).trans rfl,(zc_ BK193.out 2).trans rfl,(zc_ BK193.out 3).trans rfl⟩ (fun hHeld => ?_);refine with_tabW spec_l06Sym.tab5 spec_l06Sym.bits5 (fun HT_ HW_ => ?_)
   generalize w21.drew = w23 at HO1 BK193 HK HB hHeld ⊢
   refine zp_ 0 (some 30) ?_
   refine zp_ 1 (some 31) ?_
   refine zk2_ 2 (some 32) ?_
   refine one_ (i:=3) (N:=some 33) #[true,true,true,true,false,false,false,false,false,false,false,false,false,false,false,false,false] rfl rfl (one_of HT_.out (by kernel_rfl)) (by decide) (fun K hK => ?_)
   refine goes_ Tryz.func66 (by kernel_rfl) rfl #[.string a0_1] (by rfl) rfl rfl zq_ ?_
   with_reducible refine (spec_SetOk.calls k a0_1 true _ A18.out).mono ?_
   rintro e w24 ⟨rfl,hb⟩
   refine ⟨_,rfl,?_⟩
   have n0_:=zm_ (Kd.R_below zO_ hb)
   have n1_:=zm_ (blk_below (g:=gb193) (o:=.cells #[.int .i64 a0_0,.string a0_1,.slice A0_2 l0_2.length c0_2,.string a0_3] 76 (0,0)) zK_ hb)
   have n2_:=zm_ (Kept.below (S:=(fun k_ => P1_ k_)) zt8_2 hb)
   have n3_:=zm_ (below_step zG_ hb)
   clear HO1
   clear BK193
   clear HK
   clear HB
   have HO1:=n0_
   have BK193:=n1_
   have HK:=n2_
   have HB:=n3_
   clear n0_ n1_ n2_ n3_
   (try clear hb)
   (try clear hb2)
   (try clear hk)
   (try clear hi)
   refine hK.out _ _ ⟨(zc_ BK193.out 0).trans rfl,(zc_ BK193.out 1).trans rfl,(zc_ BK193.out 2).trans rfl,(zc_ BK193.out 3).trans rfl⟩ (fun hHeld => ?_)
   clear hK K
   refine zm2_ ?_
   refine zp_ 4 (some 34) ?_
   refine zp_ 5 (some 35) ?_
   refine zk2_ 6 (some 36) ?_
   refine zp_ 7 (some 37) ?_
   refine zp_ 8 (some 38) ?_
   refine zp_ 9 (some 39) ?_
   refine zp_ 10 (some 40) ?_
   refine zp_ 11 (some 41) ?_
   refine zp_ 15 (some 6) ?_
   refine zk2_ 12 (some 42) ?_
   refine zp_ 13 (some 43) ?_
   refine zp_ 14 (some 44) ?_
   refine zp_ 16 (some 7) ?_
   refine done_ (done_of HT_.out (by kernel_rfl)) ?_
   try go_wp2
   go_ret2
   exact ⟨_,by first|rfl|(simp [errW_none,errW_some] <;> rfl)|(simp [*,errW_none,errW_some] <;> rfl),by (with_reducible repeat (first|apply Kd.R_alloc|apply Kd.R_drewN|apply Kd.R_drew));exact HO1.out,zG_,by repeat (first|(with_reducible first|exact HK.out|apply Kept.alloc|apply Kept.drewN|apply Kept.drew|refine Kept.setCell ?_ (.inr GW193.out) _)|exact HK.out)⟩
  rw [if_neg c20] at H
  have c20b0 : ((l0_2.length : Int) == 0) = false:=beq_eq_false_iff_ne.mpr c20
  have c20b1 : ((l0_2.length : Int) != 0) = true:=bne_iff_ne.mpr c20
  have c20b2 : ¬ (l0_2 = []):=fun h_ => c20 (by rw [h_];rfl)
  simp only [Option.some.injEq,Prod.mk.injEq] at H
  obtain ⟨rfl,rfl⟩:=H
  go_enter Tryz.func36,Tryz.ntmps36
  try go_wp2_with (first|((with_reducible refine gate_dst (N:=3) rfl ?_);(try (refine gate_guard (by rfl) ?_;dsimp only));refine box_event ?hg (N:=3) ?hd (cs:=#[.int .i64 a0_0,.string a0_1,.slice A0_2 l0_2.length c0_2,.string a0_3]) (t:=76) ?hr ?_;(case hd => rfl);(case hg => rfl);(case hr => first|(go_simp;done)|(go_simp;rfl));intro gb193 hg w25 hbox hb;have n0_:=zm_ (Kd.R_below zO_ hb);have n1_:=zm_ (Kept.below (S:=(fun k_ => P1_ k_)) zt8_1 hb);have n2_:=zm_ (below_step zB_ hb);have n3_:=zm_ (hbox);have n4_:=zm_ ((zt8_5 : w.heap.size ≤ gb193));have n5_:=zm_ ((by rw [hg];exact (below_size zB_) : w0.heap.size ≤ gb193));clear HO1;clear HK;clear HB;have HO1:=n0_;have HK:=n1_;have HB:=n2_;have BK193:=n3_;have GW193:=n4_;have GE193:=n5_;clear n0_ n1_ n2_ n3_ n4_ n5_;clear hb hbox hg;have hcz26_0 : w25.cell? ⟨gb193,0,none⟩ = some (.int .i64 a0_0):=(zc_ BK193.out 0).trans rfl;have hcz26_1 : w25.cell? ⟨gb193,1,none⟩ = some (.string a0_1):=(zc_ BK193.out 1).trans rfl;have hcz26_2 : w25.cell? ⟨gb193,2,none⟩ = some (.slice A0_2 l0_2.length c0_2):=(zc_ BK193.out 2).trans rfl;have hcz26_3 : w25.cell? ⟨gb193,3,none⟩ = some (.string a0_3):=(zc_ BK193.out 3).trans rfl;have hfz26_0:=zf_ BK193.out 0;have hfz26_1:=zf_ BK193.out 1;have hfz26_2:=zf_ BK193.out 2;have hfz26_3:=zf_ BK193.out 3))
  have n0_:=zm_ (Kd.R_drew HO1.out)
  have n1_:=zm_ (zr_ BK193.out)
  have n2_:=zm_ (Kept.drew HK.out)
  have n3_:=zm_ (zd_ HB.out)
  clear HO1
  clear BK193
  clear HK
  clear HB
  have HO1:=n0_
  have BK193:=n1_
  have HK:=n2_
  have HB:=n3_
  clear n0_ n1_ n2_ n3_
  refine start_ (n:=17) (S:=fun w' => w'.cell? ⟨gb193,0,none⟩ = some (.int .i64 a0_0) ∧ w'.cell? ⟨gb193,1,none⟩ = some (.string a0_1) ∧ w'.cell? ⟨gb193,2,none⟩ = some (.slice A0_2 l0_2.length c0_2) ∧ w'.cell? ⟨gb193,3,none⟩ = some (.string a0_3)) (ds:=[]) #[false,false,false,false,false,false,false,false,false,false,false,false,false,false,false,false,false] (by kernel_rfl) rfl rfl ⟨(zc_ BK193.out 0).trans rfl,(zc_ BK193.out 1).trans rfl,(zc_ BK193.out 2).trans rfl,(zc_ BK193.out 3).trans rfl⟩ (fun hHeld => ?_);refine with_tabW spec_l06Sym.tab5 spec_l06Sym.bits5 (fun HT_ HW_ => ?_)
  generalize w25.drew = w27 at HO1 BK193 HK HB hHeld ⊢
  refine zp_ 0 (some 30) ?_
  refine zp_ 1 (some 31) ?_
  refine zk2_ 2 (some 32) ?_
  refine one_ (i:=3) (N:=some 33) #[true,true,true,true,false,false,false,false,false,false,false,false,false,false,false,false,false] rfl rfl (one_of HT_.out (by kernel_rfl)) (by decide) (fun K hK => ?_)
  refine goes_ Tryz.func66 (by kernel_rfl) rfl #[.string a0_1] (by rfl) rfl rfl zq_ ?_
  with_reducible refine (spec_SetOk.calls k a0_1 true _ A18.out).mono ?_
  rintro e w28 ⟨rfl,hb⟩
  refine ⟨_,rfl,?_⟩
  have n0_:=zm_ (Kd.R_below zO_ hb)
  have n1_:=zm_ (blk_below (g:=gb193) (o:=.cells #[.int .i64 a0_0,.string a0_1,.slice A0_2 l0_2.length c0_2,.string a0_3] 76 (0,0)) zK_ hb)
  have n2_:=zm_ (Kept.below (S:=(fun k_ => P1_ k_)) zt8_2 hb)
  have n3_:=zm_ (below_step zG_ hb)
  clear HO1
  clear BK193
  clear HK
  clear HB
  have HO1:=n0_
  have BK193:=n1_
  have HK:=n2_
  have HB:=n3_
  clear n0_ n1_ n2_ n3_
  (try clear hb)
  (try clear hb2)
  (try clear hk)
  (try clear hi)
  refine hK.out _ _ ⟨(zc_ BK193.out 0).trans rfl,(zc_ BK193.out 1).trans rfl,(zc_ BK193.out 2).trans rfl,(zc_ BK193.out 3).trans rfl⟩ (fun hHeld => ?_)
  clear hK K
  refine zm2_ ?_
  refine zp_ 4 (some 34) ?_
  refine zp_ 5 (some 35) ?_
  refine zk2_ 6 (some 36) ?_
  refine zp_ 7 (some 37) ?_
  refine zp_ 8 (some 38) ?_
  refine zp_ 9 (some 39) ?_
  refine zp_ 10 (some 40) ?_
  refine pure_ (i:=11) (N:=some 41) (v:=undef) (a':=?_) #[true,true,true,true,true,true,true,true,true,true,true,true,false,false,false,false,false] rfl rfl (any_of HT_.out (by kernel_rfl)) (fun _ _ _ h => h) (Or.inr ⟨by rfl,rfl⟩) ?_ ?_
  rotate_left
  ·simp only [Act.put,List.setIfInBounds_toArray,List.set_cons_zero,List.set_cons_succ,i64_w,i32_w,IntKind.wrap_u8]
   rfl
  refine pure_ (i:=12) (N:=some 42) (v:=undef) (a':=?_) #[true,true,true,true,true,true,true,true,true,true,true,true,true,false,false,false,false] rfl rfl (any_of HT_.out (by kernel_rfl)) (fun _ _ _ h => h) (Or.inr ⟨by rfl,rfl⟩) ?_ ?_
  rotate_left
  ·simp only [Act.put,List.setIfInBounds_toArray,List.set_cons_zero,List.set_cons_succ,i64_w,i32_w,IntKind.wrap_u8]
   rfl
  refine pure_ (i:=13) (N:=some 43) (v:=undef) (a':=?_) #[true,true,true,true,true,true,true,true,true,true,true,true,true,true,false,false,false] rfl rfl (any_of HT_.out (by kernel_rfl)) (fun _ _ _ h => h) (Or.inr ⟨by rfl,rfl⟩) ?_ ?_
  rotate_left
  ·simp only [Act.put,List.setIfInBounds_toArray,List.set_cons_zero,List.set_cons_succ,i64_w,i32_w,IntKind.wrap_u8]
   rfl
  refine zp_ 14 (some 44) ?_
  refine zp_ 15 (some 6) ?_
  refine zp_ 16 (some 7) ?_
  refine done_ (done_of HT_.out (by kernel_rfl)) ?_
  try go_wp2
  go_ret2
  exact ⟨_,by first|rfl|(simp [errW_none,errW_some] <;> rfl)|(simp [*,errW_none,errW_some] <;> rfl),by (with_reducible repeat (first|apply Kd.R_alloc|apply Kd.R_drewN|apply Kd.R_drew));exact HO1.out,zG_,by repeat (first|(with_reducible first|exact HK.out|apply Kept.alloc|apply Kept.drewN|apply Kept.drew|refine Kept.setCell ?_ (.inr GW193.out) _)|exact HK.out)⟩
 rw [if_neg c17] at H
 have c17b0 : (a0_0 == 2) = false:=beq_eq_false_iff_ne.mpr c17
 have c17b1 : (a0_0 != 2) = true:=bne_iff_ne.mpr c17
 by_cases c33 : a0_0 = 4
 ·rw [if_pos c33] at H
  have c33b0 : (a0_0 == 4) = true:=beq_iff_eq.mpr c33
  have c33b1 : (a0_0 != 4) = false:=bne_eq_false_iff_eq.mpr c33
  clear c33
  by_cases c34 : a0_1.toList = ([] : List UInt8)
  rotate_left
  ·rw [if_neg c34] at H
   have c34b0 : (a0_1.toList == ([] : List UInt8)) = false:=beq_eq_false_iff_ne.mpr c34
   have c34b1 : (a0_1.toList != ([] : List UInt8)) = true:=bne_iff_ne.mpr c34
   simp only [Option.some.injEq,Prod.mk.injEq] at H
   obtain ⟨rfl,rfl⟩:=H
   go_enter Tryz.func36,Tryz.ntmps36
   go_wp2_with (first|((with_reducible refine gate_dst (N:=3) rfl ?_);(try (refine gate_guard (by rfl) ?_;dsimp only));refine box_event ?hg (N:=3) ?hd (cs:=#[.int .i64 a0_0,.string a0_1,.slice A0_2 l0_2.length c0_2,.string a0_3]) (t:=76) ?hr ?_;(case hd => rfl);(case hg => rfl);(case hr => first|(go_simp;done)|(go_simp;rfl));intro gb193 hg w46 hbox hb;have n0_:=zm_ (Kd.R_below zO_ hb);have n1_:=zm_ (Kept.below (S:=(fun k_ => P1_ k_)) zt8_1 hb);have n2_:=zm_ (below_step zB_ hb);have n3_:=zm_ (hbox);have n4_:=zm_ ((zt8_5 : w.heap.size ≤ gb193));have n5_:=zm_ ((by rw [hg];exact (below_size zB_) : w0.heap.size ≤ gb193));clear HO1;clear HK;clear HB;have HO1:=n0_;have HK:=n1_;have HB:=n2_;have BK193:=n3_;have GW193:=n4_;have GE193:=n5_;clear n0_ n1_ n2_ n3_ n4_ n5_;clear hb hbox hg;have hcz47_0 : w46.cell? ⟨gb193,0,none⟩ = some (.int .i64 a0_0):=(zc_ BK193.out 0).trans rfl;have hcz47_1 : w46.cell? ⟨gb193,1,none⟩ = some (.string a0_1):=(zc_ BK193.out 1).trans rfl;have hcz47_2 : w46.cell? ⟨gb193,2,none⟩ = some (.slice A0_2 l0_2.length c0_2):=(zc_ BK193.out 2).trans rfl;have hcz47_3 : w46.cell? ⟨gb193,3,none⟩ = some (.string a0_3):=(zc_ BK193.out 3).trans rfl;have hfz47_0:=zf_ BK193.out 0;have hfz47_1:=zf_ BK193.out 1;have hfz47_2:=zf_ BK193.out 2;have hfz47_3:=zf_ BK193.out 3))
   go_ret2
   exact ⟨_,by first|rfl|(simp [errW_none,errW_some] <;> rfl)|(simp [*,errW_none,errW_some] <;> rfl),by (with_reducible repeat (first|apply Kd.R_alloc|apply Kd.R_drewN|apply Kd.R_drew));exact HO1.out,zG_,by repeat (first|(with_reducible first|exact HK.out|apply Kept.alloc|apply Kept.drewN|apply Kept.drew|refine Kept.setCell ?_ (.inr GW193.out) _)|exact HK.out)⟩
  rw [if_pos c34] at H
  have c34b0 : (a0_1.toList == ([] : List UInt8)) = true:=beq_iff_eq.mpr c34
  have c34b1 : (a0_1.toList != ([] : List UInt8)) = false:=bne_eq_false_iff_eq.mpr c34
  clear c34
  by_cases c35 : a0_3.toList = ([] : List UInt8)
  rotate_left
  ·rw [if_neg c35] at H
   have c35b0 : (a0_3.toList == ([] : List UInt8)) = false:=beq_eq_false_iff_ne.mpr c35
   have c35b1 : (a0_3.toList != ([] : List UInt8)) = true:=bne_iff_ne.mpr c35
   simp only [Option.some.injEq,Prod.mk.injEq] at H
   obtain ⟨rfl,rfl⟩:=H
   go_enter Tryz.func36,Tryz.ntmps36
   go_wp2_with (first|((with_reducible refine gate_dst (N:=3) rfl ?_);(try (refine gate_guard (by rfl) ?_;dsimp only));refine box_event ?hg (N:=3) ?hd (cs:=#[.int .i64 a0_0,.string a0_1,.slice A0_2 l0_2.length c0_2,.string a0_3]) (t:=76) ?hr ?_;(case hd => rfl);(case hg => rfl);(case hr => first|(go_simp;done)|(go_simp;rfl));intro gb193 hg w44 hbox hb;have n0_:=zm_ (Kd.R_below zO_ hb);have n1_:=zm_ (Kept.below (S:=(fun k_ => P1_ k_)) zt8_1 hb);have n2_:=zm_ (below_step zB_ hb);have n3_:=zm_ (hbox);have n4_:=zm_ ((zt8_5 : w.heap.size ≤ gb193));have n5_:=zm_ ((by rw [hg];exact (below_size zB_) : w0.heap.size ≤ gb193));clear HO1;clear HK;clear HB;have HO1:=n0_;have HK:=n1_;have HB:=n2_;have BK193:=n3_;have GW193:=n4_;have GE193:=n5_;clear n0_ n1_ n2_ n3_ n4_ n5_;clear hb hbox hg;have hcz45_0 : w44.cell? ⟨gb193,0,none⟩ = some (.int .i64 a0_0):=(zc_ BK193.out 0).trans rfl;have hcz45_1 : w44.cell? ⟨gb193,1,none⟩ = some (.string a0_1):=(zc_ BK193.out 1).trans rfl;have hcz45_2 : w44.cell? ⟨gb193,2,none⟩ = some (.slice A0_2 l0_2.length c0_2):=(zc_ BK193.out 2).trans rfl;have hcz45_3 : w44.cell? ⟨gb193,3,none⟩ = some (.string a0_3):=(zc_ BK193.out 3).trans rfl;have hfz45_0:=zf_ BK193.out 0;have hfz45_1:=zf_ BK193.out 1;have hfz45_2:=zf_ BK193.out 2;have hfz45_3:=zf_ BK193.out 3))
   go_ret2
   exact ⟨_,by first|rfl|(simp [errW_none,errW_some] <;> rfl)|(simp [*,errW_none,errW_some] <;> rfl),by (with_reducible repeat (first|apply Kd.R_alloc|apply Kd.R_drewN|apply Kd.R_drew));exact HO1.out,zG_,by repeat (first|(with_reducible first|exact HK.out|apply Kept.alloc|apply Kept.drewN|apply Kept.drew|refine Kept.setCell ?_ (.inr GW193.out) _)|exact HK.out)⟩
  rw [if_pos c35] at H
  have c35b0 : (a0_3.toList == ([] : List UInt8)) = true:=beq_iff_eq.mpr c35
  have c35b1 : (a0_3.toList != ([] : List UInt8)) = false:=bne_eq_false_iff_eq.mpr c35
  clear c35
  by_cases c36 : (l0_2.length : Int) = 1
  rotate_left
  ·rw [if_neg c36] at H
   have c36b0 : ((l0_2.length : Int) == 1) = false:=beq_eq_false_iff_ne.mpr c36
   have c36b1 : ((l0_2.length : Int) != 1) = true:=bne_iff_ne.mpr c36
   simp only [Option.some.injEq,Prod.mk.injEq] at H
   obtain ⟨rfl,rfl⟩:=H
   go_enter Tryz.func36,Tryz.ntmps36
   go_wp2_with (first|((with_reducible refine gate_dst (N:=3) rfl ?_);(try (refine gate_guard (by rfl) ?_;dsimp only));refine box_event ?hg (N:=3) ?hd (cs:=#[.int .i64 a0_0,.string a0_1,.slice A0_2 l0_2.length c0_2,.string a0_3]) (t:=76) ?hr ?_;(case hd => rfl);(case hg => rfl);(case hr => first|(go_simp;done)|(go_simp;rfl));intro gb193 hg w42 hbox hb;have n0_:=zm_ (Kd.R_below zO_ hb);have n1_:=zm_ (Kept.below (S:=(fun k_ => P1_ k_)) zt8_1 hb);have n2_:=zm_ (below_step zB_ hb);have n3_:=zm_ (hbox);have n4_:=zm_ ((zt8_5 : w.heap.size ≤ gb193));have n5_:=zm_ ((by rw [hg];exact (below_size zB_) : w0.heap.size ≤ gb193));clear HO1;clear HK;clear HB;have HO1:=n0_;have HK:=n1_;have HB:=n2_;have BK193:=n3_;have GW193:=n4_;have GE193:=n5_;clear n0_ n1_ n2_ n3_ n4_ n5_;clear hb hbox hg;have hcz43_0 : w42.cell? ⟨gb193,0,none⟩ = some (.int .i64 a0_0):=(zc_ BK193.out 0).trans rfl;have hcz43_1 : w42.cell? ⟨gb193,1,none⟩ = some (.string a0_1):=(zc_ BK193.out 1).trans rfl;have hcz43_2 : w42.cell? ⟨gb193,2,none⟩ = some (.slice A0_2 l0_2.length c0_2):=(zc_ BK193.out 2).trans rfl;have hcz43_3 : w42.cell? ⟨gb193,3,none⟩ = some (.string a0_3):=(zc_ BK193.out 3).trans rfl;have hfz43_0:=zf_ BK193.out 0;have hfz43_1:=zf_ BK193.out 1;have hfz43_2:=zf_ BK193.out 2;have hfz43_3:=zf_ BK193.out 3))
   go_ret2
   exact ⟨_,by first|rfl|(simp [errW_none,errW_some] <;> rfl)|(simp [*,errW_none,errW_some] <;> rfl),by (with_reducible repeat (first|apply Kd.R_alloc|apply Kd.R_drewN|apply Kd.R_drew));exact HO1.out,zG_,by repeat (first|(with_reducible first|exact HK.out|apply Kept.alloc|apply Kept.drewN|apply Kept.drew|refine Kept.setCell ?_ (.inr GW193.out) _)|exact HK.out)⟩
  rw [if_pos c36] at H
  have c36b0 : ((l0_2.length : Int) == 1) = true:=beq_iff_eq.mpr c36
  have c36b1 : ((l0_2.length : Int) != 1) = false:=bne_eq_false_iff_eq.mpr c36
  clear c36
  obtain ⟨t196,A37,H⟩:=zJ_ H
  try dsimp only at H
  simp only [Option.some.injEq,Prod.mk.injEq] at H
  obtain ⟨rfl,rfl⟩:=H
  go_enter Tryz.func36,Tryz.ntmps36
  go_wp2_with (first|((with_reducible refine gate_dst (N:=3) rfl ?_);(try (refine gate_guard (by rfl) ?_;dsimp only));refine box_event ?hg (N:=3) ?hd (cs:=#[.int .i64 a0_0,.string a0_1,.slice A0_2 l0_2.length c0_2,.string a0_3]) (t:=76) ?hr ?_;(case hd => rfl);(case hg => rfl);(case hr => first|(go_simp;done)|(go_simp;rfl));intro gb193 hg w38 hbox hb;have n0_:=zm_ (Kd.R_below zO_ hb);have n1_:=zm_ (Kept.below (S:=(fun k_ => P1_ k_)) zt8_1 hb);have n2_:=zm_ (below_step zB_ hb);have n3_:=zm_ (hbox);have n4_:=zm_ ((zt8_5 : w.heap.size ≤ gb193));have n5_:=zm_ ((by rw [hg];exact (below_size zB_) : w0.heap.size ≤ gb193));clear HO1;clear HK;clear HB;have HO1:=n0_;have HK:=n1_;have HB:=n2_;have BK193:=n3_;have GW193:=n4_;have GE193:=n5_;clear n0_ n1_ n2_ n3_ n4_ n5_;clear hb hbox hg;have hcz39_0 : w38.cell? ⟨gb193,0,none⟩ = some (.int .i64 a0_0):=(zc_ BK193.out 0).trans rfl;have hcz39_1 : w38.cell? ⟨gb193,1,none⟩ = some (.string a0_1):=(zc_ BK193.out 1).trans rfl;have hcz39_2 : w38.cell? ⟨gb193,2,none⟩ = some (.slice A0_2 l0_2.length c0_2):=(zc_ BK193.out 2).trans rfl;have hcz39_3 : w38.cell? ⟨gb193,3,none⟩ = some (.string a0_3):=(zc_ BK193.out 3).trans rfl;have hfz39_0:=zf_ BK193.out 0;have hfz39_1:=zf_ BK193.out 1;have hfz39_2:=zf_ BK193.out 2;have hfz39_3:=zf_ BK193.out 3;obtain ⟨Ao40,co40,eo40⟩:=Kd.R_slice HO1.out;subst eo40)|(go_at_call 67;(with_reducible refine (spec_l06Args.calls k _ _ l0_2 _ _ l1 t196 _ ?side1 ?side2 ?side3 ?side4 A37.out).mono ?_);(case side1 => exact Kd.C_kept_now HR0_2.out zt8_2);(case side2 => exact HC0_2.out);(case side3 => repeat (first|exact (Kd.R_reads' HO1.out).2.2|(with_reducible refine Kd.C_alloc ?_ _)|(with_reducible refine Kd.C_drewN ?_ _)|(with_reducible refine Kd.C_drew ?_)));(case side4 => exact (Kd.R_reads' HO1.out).2.1);rintro e w41 ⟨rfl,hb⟩;have n0_:=zm_ (Kd.R_below zO_ hb);have n1_:=zm_ (blk_below (g:=gb193) (o:=.cells #[.int .i64 a0_0,.string a0_1,.slice A0_2 l0_2.length c0_2,.string a0_3] 76 (0,0)) zK_ hb);have n2_:=zm_ (Kept.below (S:=(fun k_ => P1_ k_)) zt8_2 hb);have n3_:=zm_ (below_step zG_ hb);clear HO1;clear BK193;clear HK;clear HB;have HO1:=n0_;have BK193:=n1_;have HK:=n2_;have HB:=n3_;clear n0_ n1_ n2_ n3_;(try clear hb)))
  go_ret2
  exact ⟨_,by first|rfl|(simp [errW_none,errW_some] <;> rfl)|(simp [*,errW_none,errW_some] <;> rfl),by (with_reducible repeat (first|apply Kd.R_alloc|apply Kd.R_drewN|apply Kd.R_drew));exact HO1.out,zG_,by repeat (first|(with_reducible first|exact HK.out|apply Kept.alloc|apply Kept.drewN|apply Kept.drew|refine Kept.setCell ?_ (.inr GW193.out) _)|exact HK.out)⟩
 rw [if_neg c33] at H
 have c33b0 : (a0_0 == 4) = false:=beq_eq_false_iff_ne.mpr c33
 have c33b1 : (a0_0 != 4) = true:=bne_iff_ne.mpr c33
 by_cases c48 : a0_0 = 3
 rotate_left
 ·rw [if_neg c48] at H
  have c48b0 : (a0_0 == 3) = false:=beq_eq_false_iff_ne.mpr c48
  have c48b1 : (a0_0 != 3) = true:=bne_iff_ne.mpr c48
  simp only [Option.some.injEq,Prod.mk.injEq] at H
  obtain ⟨rfl,rfl⟩:=H
  go_enter Tryz.func36,Tryz.ntmps36
  go_wp2_with (first|((with_reducible refine gate_dst (N:=3) rfl ?_);(try (refine gate_guard (by rfl) ?_;dsimp only));refine box_event ?hg (N:=3) ?hd (cs:=#[.int .i64 a0_0,.string a0_1,.slice A0_2 l0_2.length c0_2,.string a0_3]) (t:=76) ?hr ?_;(case hd => rfl);(case hg => rfl);(case hr => first|(go_simp;done)|(go_simp;rfl));intro gb193 hg w79 hbox hb;have n0_:=zm_ (Kd.R_below zO_ hb);have n1_:=zm_ (Kept.below (S:=(fun k_ => P1_ k_)) zt8_1 hb);have n2_:=zm_ (below_step zB_ hb);have n3_:=zm_ (hbox);have n4_:=zm_ ((zt8_5 : w.heap.size ≤ gb193));have n5_:=zm_ ((by rw [hg];exact (below_size zB_) : w0.heap.size ≤ gb193));clear HO1;clear HK;clear HB;have HO1:=n0_;have HK:=n1_;have HB:=n2_;have BK193:=n3_;have GW193:=n4_;have GE193:=n5_;clear n0_ n1_ n2_ n3_ n4_ n5_;clear hb hbox hg;have hcz80_0 : w79.cell? ⟨gb193,0,none⟩ = some (.int .i64 a0_0):=(zc_ BK193.out 0).trans rfl;have hcz80_1 : w79.cell? ⟨gb193,1,none⟩ = some (.string a0_1):=(zc_ BK193.out 1).trans rfl;have hcz80_2 : w79.cell? ⟨gb193,2,none⟩ = some (.slice A0_2 l0_2.length c0_2):=(zc_ BK193.out 2).trans rfl;have hcz80_3 : w79.cell? ⟨gb193,3,none⟩ = some (.string a0_3):=(zc_ BK193.out 3).trans rfl;have hfz80_0:=zf_ BK193.out 0;have hfz80_1:=zf_ BK193.out 1;have hfz80_2:=zf_ BK193.out 2;have hfz80_3:=zf_ BK193.out 3))
  go_ret2
  exact ⟨_,by first|rfl|(simp [errW_none,errW_some] <;> rfl)|(simp [*,errW_none,errW_some] <;> rfl),by (with_reducible repeat (first|apply Kd.R_alloc|apply Kd.R_drewN|apply Kd.R_drew));exact HO1.out,zG_,by repeat (first|(with_reducible first|exact HK.out|apply Kept.alloc|apply Kept.drewN|apply Kept.drew|refine Kept.setCell ?_ (.inr GW193.out) _)|exact HK.out)⟩


 rw [if_pos c48] at H
 have c48b0 : (a0_0 == 3) = true:=beq_iff_eq.mpr c48
 have c48b1 : (a0_0 != 3) = false:=bne_eq_false_iff_eq.mpr c48
 clear c48
 have HC49:=zm_ H
 clear H
 go_enter Tryz.func36,Tryz.ntmps36
 go_upto_region 9 with (first|((with_reducible refine gate_dst (N:=3) rfl ?_);(try (refine gate_guard (by rfl) ?_;dsimp only));refine box_event ?hg (N:=3) ?hd (cs:=#[.int .i64 a0_0,.string a0_1,.slice A0_2 l0_2.length c0_2,.string a0_3]) (t:=76) ?hr ?_;(case hd => rfl);(case hg => rfl);(case hr => first|(go_simp;done)|(go_simp;rfl));intro gb193 hg w50 hbox hb;have n0_:=zm_ (Kd.R_below zO_ hb);have n1_:=zm_ (Kept.below (S:=(fun k_ => P1_ k_)) zt8_1 hb);have n2_:=zm_ (below_step zB_ hb);have n3_:=zm_ (hbox);have n4_:=zm_ ((zt8_5 : w.heap.size ≤ gb193));have n5_:=zm_ ((by rw [hg];exact (below_size zB_) : w0.heap.size ≤ gb193));clear HO1;clear HK;clear HB;have HO1:=n0_;have HK:=n1_;have HB:=n2_;have BK193:=n3_;have GW193:=n4_;have GE193:=n5_;clear n0_ n1_ n2_ n3_ n4_ n5_;clear hb hbox hg;have hcz51_0 : w50.cell? ⟨gb193,0,none⟩ = some (.int .i64 a0_0):=(zc_ BK193.out 0).trans rfl;have hcz51_1 : w50.cell? ⟨gb193,1,none⟩ = some (.string a0_1):=(zc_ BK193.out 1).trans rfl;have hcz51_2 : w50.cell? ⟨gb193,2,none⟩ = some (.slice A0_2 l0_2.length c0_2):=(zc_ BK193.out 2).trans rfl;have hcz51_3 : w50.cell? ⟨gb193,3,none⟩ = some (.string a0_3):=(zc_ BK193.out 3).trans rfl;have hfz51_0:=zf_ BK193.out 0;have hfz51_1:=zf_ BK193.out 1;have hfz51_2:=zf_ BK193.out 2;have hfz51_3:=zf_ BK193.out 3))
 (try simp only [Act.put,List.setIfInBounds_toArray,List.set_cons_zero,List.set_cons_succ])
 go_cut [81] (fun v81 wc => ∃ (kq : Nat) (x81_48 : Bool),v81 = .bool x81_48 ∧ Aside0 (spec_l06Sym.j0 kq l1 x81_48 a0_0 a0_1 l0_2 a0_3 = some (r1,r2)) ∧ Aside0 (kq ≤ k) ∧ Aside0 (Kd.R Kd.string 9 wc w0.heap.size (fun k_ => (P1_ k_ ∨ w.heap.size ≤ k_)) u9000_ l1) ∧ Aside0 (wc.heap[gb193]? = some (.cells #[.int .i64 a0_0,.string a0_1,(.slice A0_2 l0_2.length c0_2),.string a0_3] 76 (0,0))) ∧ Aside0 (Kept w wc (fun k_ => P1_ k_)) ∧ Aside0 (Below w0.heap.size w0 wc))
 case first =>
  have H:=HC49.out
  clear HC49
  by_cases c52 : (l0_2.length : Int) = a2
  rotate_left
  ·rw [if_neg c52] at H
   have c52b0 : ((l0_2.length : Int) == a2) = false:=beq_eq_false_iff_ne.mpr c52
   have c52b1 : ((l0_2.length : Int) != a2) = true:=bne_iff_ne.mpr c52
   (first|rw [c52b0]|(simp only [i64_w,i32_w];rw [c52b0])|skip)
   have H':=zm_ H
   clear H
   have hcz57_0 : w50.cell? ⟨gb193,0,none⟩ = some (.int .i64 a0_0):=(zc_ BK193.out 0).trans rfl
   have hcz57_1 : w50.cell? ⟨gb193,1,none⟩ = some (.string a0_1):=(zc_ BK193.out 1).trans rfl
   have hcz57_2 : w50.cell? ⟨gb193,2,none⟩ = some (.slice A0_2 l0_2.length c0_2):=(zc_ BK193.out 2).trans rfl
   have hcz57_3 : w50.cell? ⟨gb193,3,none⟩ = some (.string a0_3):=(zc_ BK193.out 3).trans rfl
   have hfz57_0:=zf_ BK193.out 0
   have hfz57_1:=zf_ BK193.out 1
   have hfz57_2:=zf_ BK193.out 2
   have hfz57_3:=zf_ BK193.out 3
   go_wp2
   go_meet
   case rel => exact ⟨_,(true),zV_,H',⟨by first|omega|exact Nat.le_refl _⟩,⟨zO_⟩,⟨zK_⟩,⟨by repeat (first|(with_reducible first|exact HK.out|apply Kept.alloc|apply Kept.drewN|apply Kept.drew|refine Kept.setCell ?_ (.inr GW193.out) _)|exact HK.out)⟩,⟨zG_⟩⟩
  rw [if_pos c52] at H
  have c52b0 : ((l0_2.length : Int) == a2) = true:=beq_iff_eq.mpr c52
  have c52b1 : ((l0_2.length : Int) != a2) = false:=bne_eq_false_iff_eq.mpr c52
  clear c52
  (first|rw [c52b0]|(simp only [i64_w,i32_w];rw [c52b0])|skip)
  obtain ⟨t197,A53,H⟩:=zJ_ H
  try dsimp only at H
  have H':=zm_ H
  clear H
  have hcz54_0 : w50.cell? ⟨gb193,0,none⟩ = some (.int .i64 a0_0):=(zc_ BK193.out 0).trans rfl
  have hcz54_1 : w50.cell? ⟨gb193,1,none⟩ = some (.string a0_1):=(zc_ BK193.out 1).trans rfl
  have hcz54_2 : w50.cell? ⟨gb193,2,none⟩ = some (.slice A0_2 l0_2.length c0_2):=(zc_ BK193.out 2).trans rfl
  have hcz54_3 : w50.cell? ⟨gb193,3,none⟩ = some (.string a0_3):=(zc_ BK193.out 3).trans rfl
  have hfz54_0:=zf_ BK193.out 0
  have hfz54_1:=zf_ BK193.out 1
  have hfz54_2:=zf_ BK193.out 2
  have hfz54_3:=zf_ BK193.out 3
  obtain ⟨Ao55,co55,eo55⟩:=Kd.R_slice HO1.out
  subst eo55
  go_wp2_with (first|(go_at_call 67;(with_reducible refine (spec_l06Args.calls k _ _ l0_2 _ _ l1 t197 _ ?side1 ?side2 ?side3 ?side4 A53.out).mono ?_);(case side1 => exact Kd.C_kept_now HR0_2.out zt8_2);(case side2 => exact HC0_2.out);(case side3 => repeat (first|exact (Kd.R_reads' HO1.out).2.2|(with_reducible refine Kd.C_alloc ?_ _)|(with_reducible refine Kd.C_drewN ?_ _)|(with_reducible refine Kd.C_drew ?_)));(case side4 => exact (Kd.R_reads' HO1.out).2.1);rintro e w56 ⟨rfl,hb⟩;have n0_:=zm_ (Kd.R_below zO_ hb);have n1_:=zm_ (blk_below (g:=gb193) (o:=.cells #[.int .i64 a0_0,.string a0_1,.slice A0_2 l0_2.length c0_2,.string a0_3] 76 (0,0)) zK_ hb);have n2_:=zm_ (Kept.below (S:=(fun k_ => P1_ k_)) zt8_2 hb);have n3_:=zm_ (below_step zG_ hb);clear HO1;clear BK193;clear HK;clear HB;have HO1:=n0_;have BK193:=n1_;have HK:=n2_;have HB:=n3_;clear n0_ n1_ n2_ n3_;(try clear hb)))
  go_meet
  case rel => exact ⟨_,(!t197),zV_,H',⟨by first|omega|exact Nat.le_refl _⟩,⟨zO_⟩,⟨zK_⟩,⟨by repeat (first|(with_reducible first|exact HK.out|apply Kept.alloc|apply Kept.drewN|apply Kept.drew|refine Kept.setCell ?_ (.inr GW193.out) _)|exact HK.out)⟩,⟨zG_⟩⟩
 case rest =>
  clear HC49
  obtain ⟨kq,x81_48,rfl,HA,HJ48,HO_1,BK193,HK,HB⟩:=hcut
  cases kq with
  |zero => exact absurd HA.out (by simp [spec_l06Sym.j0])
  |succ kj48 =>
   have H:=HA.out
   clear HA
   simp only [spec_l06Sym.j0] at H
   by_cases c58 : x81_48 = true
   ·subst c58
    rw [if_pos rfl] at H
    simp only [Option.some.injEq,Prod.mk.injEq] at H
    obtain ⟨rfl,rfl⟩:=H
    go_wp2
    go_ret2
    exact ⟨_,by first|rfl|(simp [errW_none,errW_some] <;> rfl)|(simp [*,errW_none,errW_some] <;> rfl),by (with_reducible repeat (first|apply Kd.R_alloc|apply Kd.R_drewN|apply Kd.R_drew));exact HO_1.out,zG_,by repeat (first|(with_reducible first|exact HK.out|apply Kept.alloc|apply Kept.drewN|apply Kept.drew|refine Kept.setCell ?_ (.inr GW193.out) _)|exact HK.out)⟩
   replace c58:=Bool.eq_false_iff.mpr c58
   subst c58
   rw [zF_] at H
   by_cases c59 : a0_3.toList = ([] : List UInt8)
   ·rw [if_pos c59] at H
    have c59b0 : (a0_3.toList == ([] : List UInt8)) = true:=beq_iff_eq.mpr c59
    have c59b1 : (a0_3.toList != ([] : List UInt8)) = false:=bne_eq_false_iff_eq.mpr c59
    clear c59
    simp only [Option.some.injEq,Prod.mk.injEq] at H
    obtain ⟨rfl,rfl⟩:=H
    have hcz60_0 : wc.cell? ⟨gb193,0,none⟩ = some (.int .i64 a0_0):=(zc_ BK193.out 0).trans rfl
    have hcz60_1 : wc.cell? ⟨gb193,1,none⟩ = some (.string a0_1):=(zc_ BK193.out 1).trans rfl
    have hcz60_2 : wc.cell? ⟨gb193,2,none⟩ = some (.slice A0_2 l0_2.length c0_2):=(zc_ BK193.out 2).trans rfl
    have hcz60_3 : wc.cell? ⟨gb193,3,none⟩ = some (.string a0_3):=(zc_ BK193.out 3).trans rfl
    have hfz60_0:=zf_ BK193.out 0
    have hfz60_1:=zf_ BK193.out 1
    have hfz60_2:=zf_ BK193.out 2
    have hfz60_3:=zf_ BK193.out 3
    go_wp2
    go_ret2
    exact ⟨_,by first|rfl|(simp [errW_none,errW_some] <;> rfl)|(simp [*,errW_none,errW_some] <;> rfl),by (with_reducible repeat (first|apply Kd.R_alloc|apply Kd.R_drewN|apply Kd.R_drew));exact HO_1.out,zG_,by repeat (first|(with_reducible first|exact HK.out|apply Kept.alloc|apply Kept.drewN|apply Kept.drew|refine Kept.setCell ?_ (.inr GW193.out) _)|exact HK.out)⟩
   rw [if_neg c59] at H
   have c59b0 : (a0_3.toList == ([] : List UInt8)) = false:=beq_eq_false_iff_ne.mpr c59
   have c59b1 : (a0_3.toList != ([] : List UInt8)) = true:=bne_iff_ne.mpr c59
   obtain ⟨t198,A61,H⟩:=zJ_ H
   try dsimp only at H
   obtain ⟨t201,A62,H⟩:=zJ_ H
   try dsimp only at H
   by_cases c63 : t201 = true
   rotate_left
   ·replace c63:=Bool.eq_false_iff.mpr c63
    subst c63
    rw [zF_] at H
    simp only [Option.some.injEq,Prod.mk.injEq] at H
    obtain ⟨rfl,rfl⟩:=H
    have hcz75_0 : wc.cell? ⟨gb193,0,none⟩ = some (.int .i64 a0_0):=(zc_ BK193.out 0).trans rfl
    have hcz75_1 : wc.cell? ⟨gb193,1,none⟩ = some (.string a0_1):=(zc_ BK193.out 1).trans rfl
    have hcz75_2 : wc.cell? ⟨gb193,2,none⟩ = some (.slice A0_2 l0_2.length c0_2):=(zc_ BK193.out 2).trans rfl
    have hcz75_3 : wc.cell? ⟨gb193,3,none⟩ = some (.string a0_3):=(zc_ BK193.out 3).trans rfl
    have hfz75_0:=zf_ BK193.out 0
    have hfz75_1:=zf_ BK193.out 1
    have hfz75_2:=zf_ BK193.out 2
    have hfz75_3:=zf_ BK193.out 3
    obtain ⟨Ao76,co76,eo76⟩:=Kd.R_slice HO_1.out
    subst eo76
    go_wp2_with (first|((with_reducible refine gate_callee (f:=68) rfl ?_);refine goesL_ (some 90) rfl rfl Tryz.func68 (by kernel_rfl) rfl #[.slice Ao76 l1.length co76,.string a0_3] rfl zq_ ?_;(with_reducible refine (spec_l03Put.calls kj48 _ _ l1 a0_3 t198 _ ?side1 ?side2 A61.out).mono ?_);(case side1 => repeat (first|exact (Kd.R_reads' HO_1.out).2.2|(with_reducible refine Kd.C_alloc ?_ _)|(with_reducible refine Kd.C_drewN ?_ _)|(with_reducible refine Kd.C_drew ?_)));(case side2 => exact (Kd.R_reads' HO_1.out).2.1);rintro e w77 ⟨v199,rfl,ho0,hb⟩;refine ⟨_,rfl,?_⟩;have n0_:=zm_ (Kd.R_elder' zO_ (Kd.R_base ho0) hb);have n1_:=zm_ (Kd.R_lower (Kd.R_new' (Kd.R_newM (M:=fun k_ => (P1_ k_ ∨ w.heap.size ≤ k_)) ho0 zt8_8 (fun k_ h_ => .inr h_)) (Kd.R_lt zO_)) (below_size zG_));have n2_:=zm_ (blk_below (g:=gb193) (o:=.cells #[.int .i64 a0_0,.string a0_1,.slice A0_2 l0_2.length c0_2,.string a0_3] 76 (0,0)) zK_ hb);have n3_:=zm_ (Kept.below (S:=(fun k_ => P1_ k_)) zt8_2 hb);have n4_:=zm_ (below_step zG_ hb);clear HO_1;clear BK193;clear HK;clear HB;have HO_1:=n0_;have HO200:=n1_;have BK193:=n2_;have HK:=n3_;have HB:=n4_;clear n0_ n1_ n2_ n3_ n4_;(try clear hb);(try clear hb2);(try clear hk);(try clear hi);(try clear ho0);have hcz78_0 : w77.cell? ⟨gb193,0,none⟩ = some (.int .i64 a0_0):=(zc_ BK193.out 0).trans rfl;have hcz78_1 : w77.cell? ⟨gb193,1,none⟩ = some (.string a0_1):=(zc_ BK193.out 1).trans rfl;have hcz78_2 : w77.cell? ⟨gb193,2,none⟩ = some (.slice A0_2 l0_2.length c0_2):=(zc_ BK193.out 2).trans rfl;have hcz78_3 : w77.cell? ⟨gb193,3,none⟩ = some (.string a0_3):=(zc_ BK193.out 3).trans rfl;have hfz78_0:=zf_ BK193.out 0;have hfz78_1:=zf_ BK193.out 1;have hfz78_2:=zf_ BK193.out 2;have hfz78_3:=zf_ BK193.out 3)|((with_reducible refine gate_callee (f:=64) rfl ?_);refine goesL_ (some 94) rfl rfl Tryz.func64 (by kernel_rfl) rfl #[.string a0_3] rfl zq_ ?_;(with_reducible refine (spec_VarName.calls kj48 a0_3 false _ A62.out).mono ?_);rintro e w' ⟨rfl,⟨nd,rfl⟩⟩;refine ⟨_,rfl,?_⟩))
    go_ret2
    exact ⟨_,by first|rfl|(simp [errW_none,errW_some] <;> rfl)|(simp [*,errW_none,errW_some] <;> rfl),by (with_reducible repeat (first|apply Kd.R_alloc|apply Kd.R_drewN|apply Kd.R_drew));exact Kd.R_mono HO200.out (fun _ hk => hk.1.1),zG_,by repeat (first|(with_reducible first|exact HK.out|apply Kept.alloc|apply Kept.drewN|apply Kept.drew|refine Kept.setCell ?_ (.inr GW193.out) _)|exact HK.out)⟩
   subst c63
   rw [if_pos rfl] at H
   obtain ⟨t202,A64,H⟩:=zJ_ H
   try dsimp only at H
   by_cases c65 : t202 = true
   ·subst c65
    rw [if_pos rfl] at H
    simp only [Option.some.injEq,Prod.mk.injEq] at H
    obtain ⟨rfl,rfl⟩:=H
    have hcz66_0 : wc.cell? ⟨gb193,0,none⟩ = some (.int .i64 a0_0):=(zc_ BK193.out 0).trans rfl
    have hcz66_1 : wc.cell? ⟨gb193,1,none⟩ = some (.string a0_1):=(zc_ BK193.out 1).trans rfl
    have hcz66_2 : wc.cell? ⟨gb193,2,none⟩ = some (.slice A0_2 l0_2.length c0_2):=(zc_ BK193.out 2).trans rfl
    have hcz66_3 : wc.cell? ⟨gb193,3,none⟩ = some (.string a0_3):=(zc_ BK193.out 3).trans rfl
    have hfz66_0:=zf_ BK193.out 0
    have hfz66_1:=zf_ BK193.out 1
    have hfz66_2:=zf_ BK193.out 2
    have hfz66_3:=zf_ BK193.out 3
    obtain ⟨Ao67,co67,eo67⟩:=Kd.R_slice HO_1.out
    subst eo67
    go_wp2_with (first|((with_reducible refine gate_callee (f:=68) rfl ?_);refine goesL_ (some 90) rfl rfl Tryz.func68 (by kernel_rfl) rfl #[.slice Ao67 l1.length co67,.string a0_3] rfl zq_ ?_;(with_reducible refine (spec_l03Put.calls kj48 _ _ l1 a0_3 t198 _ ?side1 ?side2 A61.out).mono ?_);(case side1 => repeat (first|exact (Kd.R_reads' HO_1.out).2.2|(with_reducible refine Kd.C_alloc ?_ _)|(with_reducible refine Kd.C_drewN ?_ _)|(with_reducible refine Kd.C_drew ?_)));(case side2 => exact (Kd.R_reads' HO_1.out).2.1);rintro e w68 ⟨v199,rfl,ho0,hb⟩;refine ⟨_,rfl,?_⟩;have n0_:=zm_ (Kd.R_elder' zO_ (Kd.R_base ho0) hb);have n1_:=zm_ (Kd.R_lower (Kd.R_new' (Kd.R_newM (M:=fun k_ => (P1_ k_ ∨ w.heap.size ≤ k_)) ho0 zt8_8 (fun k_ h_ => .inr h_)) (Kd.R_lt zO_)) (below_size zG_));have n2_:=zm_ (blk_below (g:=gb193) (o:=.cells #[.int .i64 a0_0,.string a0_1,.slice A0_2 l0_2.length c0_2,.string a0_3] 76 (0,0)) zK_ hb);have n3_:=zm_ (Kept.below (S:=(fun k_ => P1_ k_)) zt8_2 hb);have n4_:=zm_ (below_step zG_ hb);clear HO_1;clear BK193;clear HK;clear HB;have HO_1:=n0_;have HO200:=n1_;have BK193:=n2_;have HK:=n3_;have HB:=n4_;clear n0_ n1_ n2_ n3_ n4_;(try clear hb);(try clear hb2);(try clear hk);(try clear hi);(try clear ho0);have hcz69_0 : w68.cell? ⟨gb193,0,none⟩ = some (.int .i64 a0_0):=(zc_ BK193.out 0).trans rfl;have hcz69_1 : w68.cell? ⟨gb193,1,none⟩ = some (.string a0_1):=(zc_ BK193.out 1).trans rfl;have hcz69_2 : w68.cell? ⟨gb193,2,none⟩ = some (.slice A0_2 l0_2.length c0_2):=(zc_ BK193.out 2).trans rfl;have hcz69_3 : w68.cell? ⟨gb193,3,none⟩ = some (.string a0_3):=(zc_ BK193.out 3).trans rfl;have hfz69_0:=zf_ BK193.out 0;have hfz69_1:=zf_ BK193.out 1;have hfz69_2:=zf_ BK193.out 2;have hfz69_3:=zf_ BK193.out 3)|((with_reducible refine gate_callee (f:=64) rfl ?_);refine goesL_ (some 94) rfl rfl Tryz.func64 (by kernel_rfl) rfl #[.string a0_3] rfl zq_ ?_;(with_reducible refine (spec_VarName.calls kj48 a0_3 true _ A62.out).mono ?_);rintro e w' ⟨rfl,⟨nd,rfl⟩⟩;refine ⟨_,rfl,?_⟩)|(go_at_call 69;(with_reducible refine (spec_l03In.calls kj48 _ _ l1 a0_3 true _ ?side1 ?side2 A64.out).mono ?_);(case side1 => repeat (first|exact (Kd.R_reads' HO_1.out).2.2|(with_reducible refine Kd.C_alloc ?_ _)|(with_reducible refine Kd.C_drewN ?_ _)|(with_reducible refine Kd.C_drew ?_)));(case side2 => exact (Kd.R_reads' HO_1.out).2.1);rintro e w' ⟨rfl,⟨nd,rfl⟩⟩))
    go_ret2
    exact ⟨_,by first|rfl|(simp [errW_none,errW_some] <;> rfl)|(simp [*,errW_none,errW_some] <;> rfl),by (with_reducible repeat (first|apply Kd.R_alloc|apply Kd.R_drewN|apply Kd.R_drew));exact Kd.R_mono HO200.out (fun _ hk => hk.1.1),zG_,by repeat (first|(with_reducible first|exact HK.out|apply Kept.alloc|apply Kept.drewN|apply Kept.drew|refine Kept.setCell ?_ (.inr GW193.out) _)|exact HK.out)⟩
   replace c65:=Bool.eq_false_iff.mpr c65
   subst c65
   rw [zF_] at H
   simp only [Option.some.injEq,Prod.mk.injEq] at H
   obtain ⟨rfl,rfl⟩:=H
   have hcz70_0 : wc.cell? ⟨gb193,0,none⟩ = some (.int .i64 a0_0):=(zc_ BK193.out 0).trans rfl
   have hcz70_1 : wc.cell? ⟨gb193,1,none⟩ = some (.string a0_1):=(zc_ BK193.out 1).trans rfl
   have hcz70_2 : wc.cell? ⟨gb193,2,none⟩ = some (.slice A0_2 l0_2.length c0_2):=(zc_ BK193.out 2).trans rfl
   have hcz70_3 : wc.cell? ⟨gb193,3,none⟩ = some (.string a0_3):=(zc_ BK193.out 3).trans rfl
   have hfz70_0:=zf_ BK193.out 0
   have hfz70_1:=zf_ BK193.out 1
   have hfz70_2:=zf_ BK193.out 2
   have hfz70_3:=zf_ BK193.out 3
   obtain ⟨Ao71,co71,eo71⟩:=Kd.R_slice HO_1.out
   subst eo71
   go_wp2_with (first|((with_reducible refine gate_callee (f:=68) rfl ?_);refine goesL_ (some 90) rfl rfl Tryz.func68 (by kernel_rfl) rfl #[.slice Ao71 l1.length co71,.string a0_3] rfl zq_ ?_;(with_reducible refine (spec_l03Put.calls kj48 _ _ l1 a0_3 t198 _ ?side1 ?side2 A61.out).mono ?_);(case side1 => repeat (first|exact (Kd.R_reads' HO_1.out).2.2|(with_reducible refine Kd.C_alloc ?_ _)|(with_reducible refine Kd.C_drewN ?_ _)|(with_reducible refine Kd.C_drew ?_)));(case side2 => exact (Kd.R_reads' HO_1.out).2.1);rintro e w72 ⟨v199,rfl,ho0,hb⟩;refine ⟨_,rfl,?_⟩;have n0_:=zm_ (Kd.R_elder' zO_ (Kd.R_base ho0) hb);have n1_:=zm_ (Kd.R_lower (Kd.R_new' (Kd.R_newM (M:=fun k_ => (P1_ k_ ∨ w.heap.size ≤ k_)) ho0 zt8_8 (fun k_ h_ => .inr h_)) (Kd.R_lt zO_)) (below_size zG_));have n2_:=zm_ (blk_below (g:=gb193) (o:=.cells #[.int .i64 a0_0,.string a0_1,.slice A0_2 l0_2.length c0_2,.string a0_3] 76 (0,0)) zK_ hb);have n3_:=zm_ (Kept.below (S:=(fun k_ => P1_ k_)) zt8_2 hb);have n4_:=zm_ (below_step zG_ hb);clear HO_1;clear BK193;clear HK;clear HB;have HO_1:=n0_;have HO200:=n1_;have BK193:=n2_;have HK:=n3_;have HB:=n4_;clear n0_ n1_ n2_ n3_ n4_;(try clear hb);(try clear hb2);(try clear hk);(try clear hi);(try clear ho0);have hcz73_0 : w72.cell? ⟨gb193,0,none⟩ = some (.int .i64 a0_0):=(zc_ BK193.out 0).trans rfl;have hcz73_1 : w72.cell? ⟨gb193,1,none⟩ = some (.string a0_1):=(zc_ BK193.out 1).trans rfl;have hcz73_2 : w72.cell? ⟨gb193,2,none⟩ = some (.slice A0_2 l0_2.length c0_2):=(zc_ BK193.out 2).trans rfl;have hcz73_3 : w72.cell? ⟨gb193,3,none⟩ = some (.string a0_3):=(zc_ BK193.out 3).trans rfl;have hfz73_0:=zf_ BK193.out 0;have hfz73_1:=zf_ BK193.out 1;have hfz73_2:=zf_ BK193.out 2;have hfz73_3:=zf_ BK193.out 3)|((with_reducible refine gate_callee (f:=64) rfl ?_);refine goesL_ (some 94) rfl rfl Tryz.func64 (by kernel_rfl) rfl #[.string a0_3] rfl zq_ ?_;(with_reducible refine (spec_VarName.calls kj48 a0_3 true _ A62.out).mono ?_);rintro e w' ⟨rfl,⟨nd,rfl⟩⟩;refine ⟨_,rfl,?_⟩)|(go_at_call 69;(with_reducible refine (spec_l03In.calls kj48 _ _ l1 a0_3 false _ ?side1 ?side2 A64.out).mono ?_);(case side1 => repeat (first|exact (Kd.R_reads' HO_1.out).2.2|(with_reducible refine Kd.C_alloc ?_ _)|(with_reducible refine Kd.C_drewN ?_ _)|(with_reducible refine Kd.C_drew ?_)));(case side2 => exact (Kd.R_reads' HO_1.out).2.1);rintro e w' ⟨rfl,⟨nd,rfl⟩⟩;obtain ⟨Ao74,co74,eo74⟩:=Kd.R_slice HO200.out;subst eo74))
   go_ret2
   exact ⟨_,by first|rfl|(simp [errW_none,errW_some] <;> rfl)|(simp [*,errW_none,errW_some] <;> rfl),by (with_reducible repeat (first|apply Kd.R_alloc|apply Kd.R_drewN|apply Kd.R_drew));exact Kd.R_mono HO200.out (fun _ hk => hk.1.1),zG_,by repeat (first|(with_reducible first|exact HK.out|apply Kept.alloc|apply Kept.drewN|apply Kept.drew|refine Kept.setCell ?_ (.inr GW193.out) _)|exact HK.out)⟩
end Go.Proofs.YtkbgmojomgelbaaGreat.MFnExactGrammarOk
