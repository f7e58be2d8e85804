import Derived.Test.YtkbgmojomgelbaaGreatMFnExactGrammarOkx0
import Derived.Test.YtkbgmojomgelbaaGreatMFnExactGrammarOkx2
import Derived.Test.YtkbgmojomgelbaaGreatMFnExactGrammarOkx3
import Derived.Test.YtkbgmojomgelbaaGreatMFnExactGrammarOkx4
import Derived.Test.YtkbgmojomgelbaaGreatMFnExactGrammarOkx8
namespace Go.Proofs.YtkbgmojomgelbaaGreat.MFnExactGrammarOk
open Go.RowKit Go.Proofs.YtkbgmojomgelbaaGreatW.PrintWords Go.Proofs.YtkbgmojomgelbaaGreatW.PrintLast Go.Proofs.YtkbgmojomgelbaaGreatW.PrintMore
attribute [local go_sem] max2_int min2_int max_two min_two max_three min_three max_four min_four
set_option linter.unusedVariables false
set_option linter.unusedSimpArgs false
set_option maxHeartbeats 8000000
set_option maxRecDepth 100000
theorem zt9_12 {p : Prop} (h : p := by rw [hg];exact Nat.ne_of_gt (blk_lt (g:=gb203) (o:=.cells #[.slice A0_0 l0_0.length c0_0] 29 (0,0)) zK_)) : p := h
theorem zt9_11 {p : Prop} (h : p := by rw [hg];exact Nat.ne_of_lt (blk_lt (g:=gb203) (o:=.cells #[.slice A0_0 l0_0.length c0_0] 29 (0,0)) zK_)) : p := h
theorem zt9_10 {p : Prop} (h : p := by rw [hg];exact Nat.ne_of_gt (blk_lt (g:=gb204) (o:=.cells #[.string a1_0,.slice A1_1 l1_1.length c1_1,.slice (some ad214) l1_2.length c1_2] 49 (0,0)) zK_)) : p := h
theorem zt9_9 {p : Prop} (h : p := by rw [hg];exact Nat.ne_of_lt (blk_lt (g:=gb204) (o:=.cells #[.string a1_0,.slice A1_1 l1_1.length c1_1,.slice (some ad214) l1_2.length c1_2] 49 (0,0)) zK_)) : p := h
theorem zt9_8 {p : Prop} (h : p := by (with_reducible repeat first|refine zl_ ?_ _|refine zr_ ?_|refine zk_ ?_ _);refine blk_far ?_ NB204_218.out _;(with_reducible repeat first|refine zl_ ?_ _|refine zr_ ?_|refine zk_ ?_ _);refine blk_far ?_ NB204_218.out _;(with_reducible repeat first|refine zl_ ?_ _|refine zr_ ?_|refine zk_ ?_ _);refine blk_far ?_ NB204_218.out _;(with_reducible repeat first|refine zl_ ?_ _|refine zr_ ?_|refine zk_ ?_ _);refine blk_far ?_ NB204_218.out _;(with_reducible repeat first|refine zl_ ?_ _|refine zr_ ?_|refine zk_ ?_ _);exact BK204.out) : p := h
theorem zt9_7 {p : Prop} (h : p := by (with_reducible repeat first|refine zl_ ?_ _|refine zr_ ?_|refine zk_ ?_ _);refine blk_far ?_ NB203_218.out _;(with_reducible repeat first|refine zl_ ?_ _|refine zr_ ?_|refine zk_ ?_ _);refine blk_far ?_ NB203_218.out _;(with_reducible repeat first|refine zl_ ?_ _|refine zr_ ?_|refine zk_ ?_ _);refine blk_far ?_ NB203_218.out _;(with_reducible repeat first|refine zl_ ?_ _|refine zr_ ?_|refine zk_ ?_ _);refine blk_far ?_ NB203_218.out _;(with_reducible repeat first|refine zl_ ?_ _|refine zr_ ?_|refine zk_ ?_ _);exact BK203.out) : p := h
theorem zt9_5 {p : Prop} (h : p := by (with_reducible repeat (first|apply Kd.R_alloc|apply Kd.R_drewN|apply Kd.R_drew));exact (Kd.R_mono (Kd.R_far (p:=⟨gb218,3,none⟩) (Kd.R_far (p:=⟨gb218,2,none⟩) (Kd.R_far (p:=⟨gb218,1,none⟩) (Kd.R_far (p:=⟨gb218,0,none⟩) (Kd.R_types HO_6.out BK218.out (by decide)) (fun _ hk => hk.2) (.int .i64 ((rd_T76 ((rd_T57 l1_2 x5_2).f0) x7_3).f0))) (fun _ hk => hk.2) (.string ((rd_T76 ((rd_T57 l1_2 x5_2).f0) x7_3).f1))) (fun _ hk => hk.2) (.slice A217_2 ((rd_T76 ((rd_T57 l1_2 x5_2).f0) x7_3).f2).length c217_2)) (fun _ hk => hk.2) (.string ((rd_T76 ((rd_T57 l1_2 x5_2).f0) x7_3).f3))) (fun _ h_ => h_.1))) : p := h
theorem zt9_1 {p : Prop} (h : p := by (with_reducible repeat first|refine zl_ ?_ _|refine zr_ ?_|refine zk_ ?_ _);refine blk_put (cs:=#[.int .i64 ((rd_T76 ((rd_T57 l1_2 x5_2).f0) x7_3).f0),.string ((rd_T76 ((rd_T57 l1_2 x5_2).f0) x7_3).f1),.slice A217_2 ((rd_T76 ((rd_T57 l1_2 x5_2).f0) x7_3).f2).length c217_2,.string (⟨#[]⟩ : ByteArray)]) ?_ 3 _ rfl;(with_reducible repeat first|refine zl_ ?_ _|refine zr_ ?_|refine zk_ ?_ _);refine blk_put (cs:=#[.int .i64 ((rd_T76 ((rd_T57 l1_2 x5_2).f0) x7_3).f0),.string ((rd_T76 ((rd_T57 l1_2 x5_2).f0) x7_3).f1),.slice none 0 0,.string (⟨#[]⟩ : ByteArray)]) ?_ 2 _ rfl;(with_reducible repeat first|refine zl_ ?_ _|refine zr_ ?_|refine zk_ ?_ _);refine blk_put (cs:=#[.int .i64 ((rd_T76 ((rd_T57 l1_2 x5_2).f0) x7_3).f0),.string (⟨#[]⟩ : ByteArray),.slice none 0 0,.string (⟨#[]⟩ : ByteArray)]) ?_ 1 _ rfl;(with_reducible repeat first|refine zl_ ?_ _|refine zr_ ?_|refine zk_ ?_ _);refine blk_put (cs:=#[.int .i64 0,.string (⟨#[]⟩ : ByteArray),.slice none 0 0,.string (⟨#[]⟩ : ByteArray)]) ?_ 0 _ rfl;(with_reducible repeat first|refine zl_ ?_ _|refine zr_ ?_|refine zk_ ?_ _);exact BK218.out) : p := h

mutual
def spec_l06Rule.j0 : Nat → Bool → List (S49) → ByteArray → List ByteArray → List (S57) → Option (Bool)
 |0,_,_,_,_,_ => none
 |k + 1,x29,x204000,x205000,x205001,x205002 => if x29 = true then (some false) else (spec_l06Rule.l0 k 0 x204000 x205000 x205001 x205002)
def spec_l06Rule.l0 : Nat → Int → List (S49) → ByteArray → List ByteArray → List (S57) → Option (Bool)
 |0,_,_,_,_,_ => none
 |k + 1,x5,x204000,x205000,x205001,x205002 => if x5 < (x205002.length : Int) then ((some (([] : List ByteArray) : List ByteArray)).bind fun y208 => (if y208.length + x205001.length < 8796093022208 then (if 0 ≤ x5 then (if (((rd_T57 x205002 x5).f0).length : Int) > 8 then (some false) else (spec_l06Rule.l1 k x5 (y208 ++ x205001) 0 x204000 x205000 x205001 x205002)) else (none)) else (none))) else (some true)
def spec_l06Rule.l1 : Nat → Int → List ByteArray → Int → List (S49) → ByteArray → List ByteArray → List (S57) → Option (Bool)
 |0,_,_,_,_,_,_,_ => none
 |k + 1,x5,x6,x7,x204000,x205000,x205001,x205002 => if 0 ≤ x5 then (if x5 < (x205002.length : Int) then (if x7 < (((rd_T57 x205002 x5).f0).length : Int) then (if 0 ≤ x7 then ((spec_RuleAt.f k x204000 ((rd_T76 ((rd_T57 x205002 x5).f0) x7).f1)).bind fun t219 => (if t219 ≥ 0 then (if 0 ≤ t219 then (if t219 < (x204000.length : Int) then ((spec_l06Sym.f k ((rd_T76 ((rd_T57 x205002 x5).f0) x7).f0) ((rd_T76 ((rd_T57 x205002 x5).f0) x7).f1) ((rd_T76 ((rd_T57 x205002 x5).f0) x7).f2) ((rd_T76 ((rd_T57 x205002 x5).f0) x7).f3) x6 (((rd_T49 x204000 t219).f1).length : Int)).bind fun bt221 => (if bt221.2 = true then (spec_l06Rule.l1 k x5 bt221.1 (wrap64 (x7 + 1)) x204000 x205000 x205001 x205002) else (some false))) else (none)) else (none)) else ((spec_l06Sym.f k ((rd_T76 ((rd_T57 x205002 x5).f0) x7).f0) ((rd_T76 ((rd_T57 x205002 x5).f0) x7).f1) ((rd_T76 ((rd_T57 x205002 x5).f0) x7).f2) ((rd_T76 ((rd_T57 x205002 x5).f0) x7).f3) x6 (-1)).bind fun bt225 => (if bt225.2 = true then (spec_l06Rule.l1 k x5 bt225.1 (wrap64 (x7 + 1)) x204000 x205000 x205001 x205002) else (some false))))) else (none)) else (spec_l06Rule.l0 k (wrap64 (x5 + 1)) x204000 x205000 x205001 x205002)) else (none)) else (none)
end
def spec_l06Rule.f (k : Nat) (l0_0 : List (S49)) (a1_0 : ByteArray) (l1_1 : List ByteArray) (l1_2 : List (S57)) : Option (Bool):=(spec_RuleName.f k a1_0).bind fun t205 => (if t205 = true then ((spec_l06Params.f k l1_1).bind fun t206 => (if t206 = true then ((spec_l01In.f (l1_2.length : Int) 1 8).bind fun t207 => (spec_l06Rule.j0 k (!t207) l0_0 a1_0 l1_1 l1_2)) else (spec_l06Rule.j0 k true l0_0 a1_0 l1_1 l1_2))) else (spec_l06Rule.j0 k true l0_0 a1_0 l1_1 l1_2))
theorem spec_l06Rule.calls (k : Nat) (A0_0 : Option Addr) (c0_0 : Nat) (l0_0 : List (S49)) (a1_0 : ByteArray) (A1_1 : Option Addr) (c1_1 : Nat) (l1_1 : List ByteArray) (A1_2 : Option Addr) (c1_2 : Nat) (l1_2 : List (S57)) (r : Bool) (w : World) (hr0_0 : Kd.C k49 w A0_0 l0_0.length l0_0) (hc0_0 : l0_0.length ≤ c0_0) (hr1_1 : Kd.C Kd.string w A1_1 l1_1.length l1_1) (hc1_1 : l1_1.length ≤ c1_1) (hr1_2 : Kd.C k57 w A1_2 l1_2.length l1_2) (hc1_2 : l1_2.length ≤ c1_2) (h : spec_l06Rule.f k l0_0 a1_0 l1_1 l1_2 = some r) :
  Calls Tryz.prog 18 #[.agg #[.slice A0_0 l0_0.length c0_0],.agg #[.string a1_0,.slice A1_1 l1_1.length c1_1,.slice A1_2 l1_2.length c1_2]] w fun e w' => e = .returned (.bool r) ∧ Below w.heap.size w w':=by
 have hu29:=Tryz.underlying29
 have hu49:=Tryz.underlying49
 have hu76:=Tryz.underlying76
 have HR0_0:=zm_ hr0_0
 have HC0_0:=zm_ hc0_0
 clear hr0_0 hc0_0
 have HR1_1:=zm_ hr1_1
 have HC1_1:=zm_ hc1_1
 clear hr1_1 hc1_1
 have HR1_2:=zm_ hr1_2
 have HC1_2:=zm_ hc1_2
 clear hr1_2 hc1_2
 have HB:=zm_ (Below.refl w.heap.size w)
 have H : ((spec_RuleName.f k a1_0).bind fun t205 => (if t205 = true then ((spec_l06Params.f k l1_1).bind fun t206 => (if t206 = true then ((spec_l01In.f (l1_2.length : Int) 1 8).bind fun t207 => (spec_l06Rule.j0 k (!t207) l0_0 a1_0 l1_1 l1_2)) else (spec_l06Rule.j0 k true l0_0 a1_0 l1_1 l1_2))) else (spec_l06Rule.j0 k true l0_0 a1_0 l1_1 l1_2))) = some r:=h
 clear h
 have HC3:=zm_ H
 clear H
 go_enter Tryz.func18,Tryz.ntmps18
 go_upto_region 1 with (first|((with_reducible refine gate_dst (N:=2) rfl ?_);(try (refine gate_guard (by rfl) ?_;dsimp only));refine box_event ?hg (N:=2) ?hd (cs:=#[.slice A0_0 l0_0.length c0_0]) (t:=29) ?hr ?_;(case hd => rfl);(case hg => rfl);(case hr => first|(go_simp;done)|(go_simp;rfl));intro gb203 hg w4 hbox hb;have n0_:=zm_ (below_step zB_ hb);have n1_:=zm_ (hbox);have n2_:=zm_ ((by rw [hg];exact (below_size zB_) : w.heap.size ≤ gb203));have n3_:=zm_ ((by rw [hg];exact (below_size zB_) : w.heap.size ≤ gb203));clear HB;have HB:=n0_;have BK203:=n1_;have GW203:=n2_;have GE203:=n3_;clear n0_ n1_ n2_ n3_;clear hb hbox hg)|((with_reducible refine gate_dst (N:=3) rfl ?_);(try (refine gate_guard (by rfl) ?_;dsimp only));refine box_event ?hg (N:=3) ?hd (cs:=#[.string a1_0,.slice A1_1 l1_1.length c1_1,.slice A1_2 l1_2.length c1_2]) (t:=49) ?hr ?_;(case hd => rfl);(case hg => rfl);(case hr => first|(go_simp;done)|(go_simp;rfl));intro gb204 hg w5 hbox hb;have n0_:=zm_ (blk_below (g:=gb203) (o:=.cells #[.slice A0_0 l0_0.length c0_0] 29 (0,0)) zK_ hb);have n1_:=zm_ (below_step zG_ hb);have n2_:=zm_ (hbox);have n3_:=zm_ ((by rw [hg];exact (below_size zG_) : w.heap.size ≤ gb204));have n4_:=zm_ ((by rw [hg];exact (below_size zG_) : w.heap.size ≤ gb204));have n5_:=zm_ ((zt9_11 : gb203 ≠ gb204));have n6_:=zm_ ((zt9_12 : gb204 ≠ gb203));clear BK203;clear HB;have BK203:=n0_;have HB:=n1_;have BK204:=n2_;have GW204:=n3_;have GE204:=n4_;have NB203_204:=n5_;have NB204_203:=n6_;clear n0_ n1_ n2_ n3_ n4_ n5_ n6_;clear hb hbox hg))
 (try simp only [Act.put,List.setIfInBounds_toArray,List.set_cons_zero,List.set_cons_succ])
 go_cut [29] (fun v29 wc => ∃ (kq : Nat) (x29_2 : Bool),v29 = .bool x29_2 ∧ Aside0 (spec_l06Rule.j0 kq x29_2 l0_0 a1_0 l1_1 l1_2 = some r) ∧ Aside0 (kq ≤ k) ∧ Aside0 (wc.heap[gb203]? = some (.cells #[(.slice A0_0 l0_0.length c0_0)] 29 (0,0))) ∧ Aside0 (wc.heap[gb204]? = some (.cells #[.string a1_0,(.slice A1_1 l1_1.length c1_1),(.slice A1_2 l1_2.length c1_2)] 49 (0,0))) ∧ Aside0 (Below w.heap.size w wc))
 case first =>
  have H:=HC3.out
  clear HC3
  obtain ⟨t205,A6,H⟩:=zJ_ H
  try dsimp only at H
  by_cases c7 : t205 = true
  rotate_left
  ·replace c7:=Bool.eq_false_iff.mpr c7
   subst c7
   rw [zF_] at H
   have H':=zm_ H
   clear H
   have hnb15:=NB204_203.out
   have hnc15:=NB203_204.out
   have hcz16_0 : w5.cell? ⟨gb204,0,none⟩ = some (.string a1_0):=(zc_ BK204.out 0).trans rfl
   have hcz16_1 : w5.cell? ⟨gb204,1,none⟩ = some (.slice A1_1 l1_1.length c1_1):=(zc_ BK204.out 1).trans rfl
   have hcz16_2 : w5.cell? ⟨gb204,2,none⟩ = some (.slice A1_2 l1_2.length c1_2):=(zc_ BK204.out 2).trans rfl
   have hfz16_0:=zf_ BK204.out 0
   have hfz16_1:=zf_ BK204.out 1
   have hfz16_2:=zf_ BK204.out 2
   go_wp2_with (first|((with_reducible refine gate_callee (f:=34) rfl ?_);refine goesL_ (some 15) rfl rfl Tryz.func34 (by kernel_rfl) rfl #[.string a1_0] rfl zq_ ?_;(with_reducible refine (spec_RuleName.calls k a1_0 false _ A6.out).mono ?_);rintro e w' ⟨rfl,⟨nd,rfl⟩⟩;refine ⟨_,rfl,?_⟩))
   go_meet
   case rel => exact ⟨_,(true),zV_,H',⟨by first|omega|exact Nat.le_refl _⟩,⟨zK_⟩,⟨zK_⟩,⟨zG_⟩⟩
  subst c7
  rw [if_pos rfl] at H
  obtain ⟨t206,A8,H⟩:=zJ_ H
  try dsimp only at H
  by_cases c9 : t206 = true
  rotate_left
  ·replace c9:=Bool.eq_false_iff.mpr c9
   subst c9
   rw [zF_] at H
   have H':=zm_ H
   clear H
   have hnb13:=NB204_203.out
   have hnc13:=NB203_204.out
   have hcz14_0 : w5.cell? ⟨gb204,0,none⟩ = some (.string a1_0):=(zc_ BK204.out 0).trans rfl
   have hcz14_1 : w5.cell? ⟨gb204,1,none⟩ = some (.slice A1_1 l1_1.length c1_1):=(zc_ BK204.out 1).trans rfl
   have hcz14_2 : w5.cell? ⟨gb204,2,none⟩ = some (.slice A1_2 l1_2.length c1_2):=(zc_ BK204.out 2).trans rfl
   have hfz14_0:=zf_ BK204.out 0
   have hfz14_1:=zf_ BK204.out 1
   have hfz14_2:=zf_ BK204.out 2
   go_wp2_with (first|((with_reducible refine gate_callee (f:=34) rfl ?_);refine goesL_ (some 15) rfl rfl Tryz.func34 (by kernel_rfl) rfl #[.string a1_0] rfl zq_ ?_;(with_reducible refine (spec_RuleName.calls k a1_0 true _ A6.out).mono ?_);rintro e w' ⟨rfl,⟨nd,rfl⟩⟩;refine ⟨_,rfl,?_⟩)|(go_at_call 35;(with_reducible refine (spec_l06Params.calls k _ _ l1_1 false _ ?side1 ?side2 A8.out).mono ?_);(case side1 => repeat (first|exact (Kd.C_below HR1_1.out zG_)|(with_reducible refine Kd.C_alloc ?_ _)|(with_reducible refine Kd.C_drewN ?_ _)|(with_reducible refine Kd.C_drew ?_)));(case side2 => exact HC1_1.out);rintro e w' ⟨rfl,⟨nd,rfl⟩⟩))
   go_meet
   case rel => exact ⟨_,(true),zV_,H',⟨by first|omega|exact Nat.le_refl _⟩,⟨zK_⟩,⟨zK_⟩,⟨zG_⟩⟩
  subst c9
  rw [if_pos rfl] at H
  obtain ⟨t207,A10,H⟩:=zJ_ H
  try dsimp only at H
  have H':=zm_ H
  clear H
  have hnb11:=NB204_203.out
  have hnc11:=NB203_204.out
  have hcz12_0 : w5.cell? ⟨gb204,0,none⟩ = some (.string a1_0):=(zc_ BK204.out 0).trans rfl
  have hcz12_1 : w5.cell? ⟨gb204,1,none⟩ = some (.slice A1_1 l1_1.length c1_1):=(zc_ BK204.out 1).trans rfl
  have hcz12_2 : w5.cell? ⟨gb204,2,none⟩ = some (.slice A1_2 l1_2.length c1_2):=(zc_ BK204.out 2).trans rfl
  have hfz12_0:=zf_ BK204.out 0
  have hfz12_1:=zf_ BK204.out 1
  have hfz12_2:=zf_ BK204.out 2
  go_wp2_with (first|((with_reducible refine gate_callee (f:=34) rfl ?_);refine goesL_ (some 15) rfl rfl Tryz.func34 (by kernel_rfl) rfl #[.string a1_0] rfl zq_ ?_;(with_reducible refine (spec_RuleName.calls k a1_0 true _ A6.out).mono ?_);rintro e w' ⟨rfl,⟨nd,rfl⟩⟩;refine ⟨_,rfl,?_⟩)|(go_at_call 35;(with_reducible refine (spec_l06Params.calls k _ _ l1_1 true _ ?side1 ?side2 A8.out).mono ?_);(case side1 => repeat (first|exact (Kd.C_below HR1_1.out zG_)|(with_reducible refine Kd.C_alloc ?_ _)|(with_reducible refine Kd.C_drewN ?_ _)|(with_reducible refine Kd.C_drew ?_)));(case side2 => exact HC1_1.out);rintro e w' ⟨rfl,⟨nd,rfl⟩⟩)|(go_at_call 16;(with_reducible refine (spec_l01In.calls (l1_2.length : Int) 1 8 t207 _ A10.out).mono ?_);rintro e w' ⟨rfl,⟨nd,rfl⟩⟩))
  go_meet
  case rel => exact ⟨_,(!t207),zV_,H',⟨by first|omega|exact Nat.le_refl _⟩,⟨zK_⟩,⟨zK_⟩,⟨zG_⟩⟩
 case rest =>
  clear HC3
  obtain ⟨kq,x29_2,rfl,HA,HJ2,BK203,BK204,HB⟩:=hcut
  cases kq with
  |zero => exact absurd HA.out (by simp [spec_l06Rule.j0])
  |succ kj2 =>
   have H:=HA.out
   clear HA
   simp only [spec_l06Rule.j0] at H
   by_cases c17 : x29_2 = true
   ·subst c17
    rw [if_pos rfl] at H
    obtain rfl:=zi_ H
    go_wp2
    go_ret
    exact ⟨zE_,zG_⟩
   replace c17:=Bool.eq_false_iff.mpr c17
   subst c17
   rw [zF_] at H
   have H':=zm_ H
   clear H
   go_wp2
   go_loopg [5] kj2 (fun kq v5 w' => ∃ (x5_2 : Int),v5 = .int .i64 x5_2 ∧ Aside0 (spec_l06Rule.l0 kq x5_2 l0_0 a1_0 l1_1 l1_2 = some r) ∧ Aside0 (kq ≤ kj2) ∧ Aside0 (w'.heap[gb203]? = some (.cells #[(.slice A0_0 l0_0.length c0_0)] 29 (0,0))) ∧ Aside0 (w'.heap[gb204]? = some (.cells #[.string a1_0,(.slice A1_1 l1_1.length c1_1),(.slice A1_2 l1_2.length c1_2)] 49 (0,0))) ∧ Aside0 (Below w.heap.size w w'))
   case atStart => exact ⟨(0),zV_,H',⟨Nat.le_refl _⟩,⟨zK_⟩,⟨zK_⟩,⟨zG_⟩⟩
   case round =>
    clear H'
    obtain ⟨x5_2,rfl,HA,HK2,BK203,BK204,HB⟩:=hrel
    cases gk with
    |zero => exact absurd HA.out (by simp [spec_l06Rule.l0])
    |succ k2 =>
     have H:=HA.out
     clear HA
     simp only [spec_l06Rule.l0] at H
     by_cases c18 : x5_2 < (l1_2.length : Int)
     rotate_left
     ·rw [if_neg c18] at H
      have c18b0:=decide_eq_false c18
      clear c18
      obtain rfl:=zi_ H
      have hnb96:=NB204_203.out
      have hnc96:=NB203_204.out
      have hcz97_0 : wr.cell? ⟨gb204,0,none⟩ = some (.string a1_0):=(zc_ BK204.out 0).trans rfl
      have hcz97_1 : wr.cell? ⟨gb204,1,none⟩ = some (.slice A1_1 l1_1.length c1_1):=(zc_ BK204.out 1).trans rfl
      have hcz97_2 : wr.cell? ⟨gb204,2,none⟩ = some (.slice A1_2 l1_2.length c1_2):=(zc_ BK204.out 2).trans rfl
      have hfz97_0:=zf_ BK204.out 0
      have hfz97_1:=zf_ BK204.out 1
      have hfz97_2:=zf_ BK204.out 2
      go_wp2
      go_ret
      exact ⟨zE_,zG_⟩


     rw [if_pos c18] at H
     have c18b0:=decide_eq_true c18
     clear c18
     obtain ⟨y208,hy208⟩ : ∃ y_ : List ByteArray,y_ = (([] : List ByteArray)):=⟨_,rfl⟩
     replace H : (if y208.length + l1_1.length < 8796093022208 then (if 0 ≤ x5_2 then (if (((rd_T57 l1_2 x5_2).f0).length : Int) > 8 then (some false) else (spec_l06Rule.l1 k2 x5_2 (y208 ++ l1_1) 0 l0_0 a1_0 l1_1 l1_2)) else (none)) else (none)) = some r:=by first|(rw [hy208];with_reducible exact H)|(have H2_:=(Option.bind_some _ _).symm.trans H;rw [hy208];with_reducible exact H2_)|(have H2_:=(Option.bind_some _ _).symm.trans H;with_reducible exact H2_)|with_reducible exact H|(rw [hy208];exact H)|exact H
     have Ny208:=zm_ hy208
     clear hy208
     by_cases c19 : y208.length + l1_1.length < 8796093022208
     rotate_left
     ·rw [if_neg c19] at H
      cases H
     rw [if_pos c19] at H
     have LMc19:=zm_ c19
     clear c19
     obtain ⟨y211,hy211⟩ : ∃ y_ : List ByteArray,y_ = (y208 ++ l1_1):=⟨_,rfl⟩
     replace H : (if 0 ≤ x5_2 then (if (((rd_T57 l1_2 x5_2).f0).length : Int) > 8 then (some false) else (spec_l06Rule.l1 k2 x5_2 y211 0 l0_0 a1_0 l1_1 l1_2)) else (none)) = some r:=by first|(rw [hy211];with_reducible exact H)|(have H2_:=(Option.bind_some _ _).symm.trans H;rw [hy211];with_reducible exact H2_)|(have H2_:=(Option.bind_some _ _).symm.trans H;with_reducible exact H2_)|with_reducible exact H|(rw [hy211];exact H)|exact H
     have Ny211:=zm_ hy211
     clear hy211
     by_cases c20 : 0 ≤ x5_2
     rotate_left
     ·rw [if_neg c20] at H
      cases H
     rw [if_pos c20] at H
     have c20b0:=decide_eq_true c20
     clear c20
     by_cases c21 : (((rd_T57 l1_2 x5_2).f0).length : Int) > 8
     ·rw [if_pos c21] at H
      have c21b0 : decide (8 < (((rd_T57 l1_2 x5_2).f0).length : Int)) = true:=decide_eq_true c21
      have c21b1 : decide (8 < ((rd_T57 l1_2 x5_2).f0).length) = true:=decide_eq_true (by omega)
      clear c21
      obtain rfl:=zi_ H
      have hnb22:=NB204_203.out
      have hnc22:=NB203_204.out
      have hcz23_0 : wr.cell? ⟨gb204,0,none⟩ = some (.string a1_0):=(zc_ BK204.out 0).trans rfl
      have hcz23_1 : wr.cell? ⟨gb204,1,none⟩ = some (.slice A1_1 l1_1.length c1_1):=(zc_ BK204.out 1).trans rfl
      have hcz23_2 : wr.cell? ⟨gb204,2,none⟩ = some (.slice A1_2 l1_2.length c1_2):=(zc_ BK204.out 2).trans rfl
      have hfz23_0:=zf_ BK204.out 0
      have hfz23_1:=zf_ BK204.out 1
      have hfz23_2:=zf_ BK204.out 2
      go_wp2_with (first|((with_reducible refine gate_dst (N:=37) rfl ?_);(try (refine gate_guard (by rfl) ?_;dsimp only));refine Kd.R_lit Kd.string _ 9 ?hg (N:=37) ?hd (xs:=([] : List ByteArray)) (inner:=[]) (ok:=fun _ => True) (okp:=fun _ => True) ?hr ?hp (fun _ hk => hk) trivial (Below.refl _ _) (Nat.le_refl _) (by simp) ?_;(case hd => rfl);(case hg => rfl);(case hr => first|(go_simp;done)|(go_simp;rfl));(case hp => exact (Reps.none _ _));intro v209 w24 ho25 hb hg_ hnew_;clear hg_ hnew_;(first|rw [← Ny208.out] at ho25|(simp only [Int.reduceToNat] at ho25;rw [← Ny208.out] at ho25));have n0_:=zm_ (Kd.R_lower ho25 (below_size zG_));have n1_:=zm_ (blk_below (g:=gb203) (o:=.cells #[.slice A0_0 l0_0.length c0_0] 29 (0,0)) zK_ hb);have n2_:=zm_ (blk_below (g:=gb204) (o:=.cells #[.string a1_0,.slice A1_1 l1_1.length c1_1,.slice A1_2 l1_2.length c1_2] 49 (0,0)) zK_ hb);have n3_:=zm_ (below_step zG_ hb);clear BK203;clear BK204;clear HB;have HO210:=n0_;have BK203:=n1_;have BK204:=n2_;have HB:=n3_;clear n0_ n1_ n2_ n3_;clear hb ho25;have hcz26_0 : w24.cell? ⟨gb204,0,none⟩ = some (.string a1_0):=(zc_ BK204.out 0).trans rfl;have hcz26_1 : w24.cell? ⟨gb204,1,none⟩ = some (.slice A1_1 l1_1.length c1_1):=(zc_ BK204.out 1).trans rfl;have hcz26_2 : w24.cell? ⟨gb204,2,none⟩ = some (.slice A1_2 l1_2.length c1_2):=(zc_ BK204.out 2).trans rfl;have hfz26_0:=zf_ BK204.out 0;have hfz26_1:=zf_ BK204.out 1;have hfz26_2:=zf_ BK204.out 2)|((with_reducible refine gate_builtin (b:=.append) (xs:=#[.tmp 37,.tmp 39]) rfl ?_);(try (refine gate_guard (by rfl) ?_;dsimp only));at_builtin;refine Kd.R_append_rows Kd.string (w0:=w) w.heap.size rfl (.tmp 37) (.tmp 39) 46 9 (.string ⟨#[]⟩) 16 rfl Tryz.underlying46 info9 rfl (by decide) (by omega) v209 y208 l1_1 _ _ _ (fun _ => True) (fun _ => False) rfl rfl ?aO ?aR (fun _ _ h => h) (fun _ h => h.elim) ?aF ?aB ?aS ?aL ?_;(case aR => repeat (first|exact (Kd.C_below HR1_1.out HB.out)|(with_reducible refine Kd.C_alloc ?_ _)|(with_reducible refine Kd.C_drewN ?_ _)|(with_reducible refine Kd.C_drew ?_)));(case aB => exact zG_);(case aF => exact (fun _ _ => trivial));(case aO => exact (by (with_reducible repeat (first|apply Kd.R_alloc|apply Kd.R_drewN|apply Kd.R_drew));exact HO210.out));(case aS => exact (below_size zG_));(case aL => have:=LMc19.out;omega);intro v212 w27 ho hb hg hat;rw [← Ny211.out] at ho;have n0_:=zm_ (blk_grown (g:=gb203) (o:=.cells #[.slice A0_0 l0_0.length c0_0] 29 (0,0)) zK_ hg (Kd.R_ne HO210.out BK203.out (by decide)));have n1_:=zm_ (blk_grown (g:=gb204) (o:=.cells #[.string a1_0,.slice A1_1 l1_1.length c1_1,.slice A1_2 l1_2.length c1_2] 49 (0,0)) zK_ hg (Kd.R_ne HO210.out BK204.out (by decide)));have n2_:=zm_ (hb);have n3_:=zm_ (ho);clear BK203;clear BK204;clear HB;clear HO210;have BK203:=n0_;have BK204:=n1_;have HB:=n2_;have HO213:=n3_;clear n0_ n1_ n2_ n3_;clear ho hb hg hat;have hcz28_0 : w27.cell? ⟨gb204,0,none⟩ = some (.string a1_0):=(zc_ BK204.out 0).trans rfl;have hcz28_1 : w27.cell? ⟨gb204,1,none⟩ = some (.slice A1_1 l1_1.length c1_1):=(zc_ BK204.out 1).trans rfl;have hcz28_2 : w27.cell? ⟨gb204,2,none⟩ = some (.slice A1_2 l1_2.length c1_2):=(zc_ BK204.out 2).trans rfl;have hfz28_0:=zf_ BK204.out 0;have hfz28_1:=zf_ BK204.out 1;have hfz28_2:=zf_ BK204.out 2;have p214 : 0 ≤ (x5_2 : Int):=zo_;have q214 : x5_2 < (l1_2.length : Int):=zo_;obtain ⟨ad214,A214_0,c214_0,e214,hx214_0,hl214_0,hi214_0⟩:=at_T57 HR1_2.out x5_2 p214 q214;cases e214;replace hx214_0:=(HB.out.cell (zb_ w _ hx214_0)).trans hx214_0;have HR214_0:=zm_ hi214_0;have HC214_0:=zm_ hl214_0;clear hi214_0 hl214_0;replace p214:=eq_true p214;replace q214:=eq_true q214))
      go_ret
      exact ⟨zE_,zG_⟩
     rw [if_neg c21] at H
     have c21b0 : decide (8 < (((rd_T57 l1_2 x5_2).f0).length : Int)) = false:=decide_eq_false c21
     have c21b1 : decide (8 < ((rd_T57 l1_2 x5_2).f0).length) = false:=decide_eq_false (by omega)
     clear c21
     have H':=zm_ H
     clear H
     have hnb29:=NB204_203.out
     have hnc29:=NB203_204.out
     have hcz30_0 : wr.cell? ⟨gb204,0,none⟩ = some (.string a1_0):=(zc_ BK204.out 0).trans rfl
     have hcz30_1 : wr.cell? ⟨gb204,1,none⟩ = some (.slice A1_1 l1_1.length c1_1):=(zc_ BK204.out 1).trans rfl
     have hcz30_2 : wr.cell? ⟨gb204,2,none⟩ = some (.slice A1_2 l1_2.length c1_2):=(zc_ BK204.out 2).trans rfl
     have hfz30_0:=zf_ BK204.out 0
     have hfz30_1:=zf_ BK204.out 1
     have hfz30_2:=zf_ BK204.out 2
     go_wp2_with (first|((with_reducible refine gate_dst (N:=37) rfl ?_);(try (refine gate_guard (by rfl) ?_;dsimp only));refine Kd.R_lit Kd.string _ 9 ?hg (N:=37) ?hd (xs:=([] : List ByteArray)) (inner:=[]) (ok:=fun _ => True) (okp:=fun _ => True) ?hr ?hp (fun _ hk => hk) trivial (Below.refl _ _) (Nat.le_refl _) (by simp) ?_;(case hd => rfl);(case hg => rfl);(case hr => first|(go_simp;done)|(go_simp;rfl));(case hp => exact (Reps.none _ _));intro v209 w31 ho32 hb hg_ hnew_;clear hg_ hnew_;(first|rw [← Ny208.out] at ho32|(simp only [Int.reduceToNat] at ho32;rw [← Ny208.out] at ho32));have n0_:=zm_ (Kd.R_lower ho32 (below_size zG_));have n1_:=zm_ (blk_below (g:=gb203) (o:=.cells #[.slice A0_0 l0_0.length c0_0] 29 (0,0)) zK_ hb);have n2_:=zm_ (blk_below (g:=gb204) (o:=.cells #[.string a1_0,.slice A1_1 l1_1.length c1_1,.slice A1_2 l1_2.length c1_2] 49 (0,0)) zK_ hb);have n3_:=zm_ (below_step zG_ hb);clear BK203;clear BK204;clear HB;have HO210:=n0_;have BK203:=n1_;have BK204:=n2_;have HB:=n3_;clear n0_ n1_ n2_ n3_;clear hb ho32;have hcz33_0 : w31.cell? ⟨gb204,0,none⟩ = some (.string a1_0):=(zc_ BK204.out 0).trans rfl;have hcz33_1 : w31.cell? ⟨gb204,1,none⟩ = some (.slice A1_1 l1_1.length c1_1):=(zc_ BK204.out 1).trans rfl;have hcz33_2 : w31.cell? ⟨gb204,2,none⟩ = some (.slice A1_2 l1_2.length c1_2):=(zc_ BK204.out 2).trans rfl;have hfz33_0:=zf_ BK204.out 0;have hfz33_1:=zf_ BK204.out 1;have hfz33_2:=zf_ BK204.out 2)|((with_reducible refine gate_builtin (b:=.append) (xs:=#[.tmp 37,.tmp 39]) rfl ?_);(try (refine gate_guard (by rfl) ?_;dsimp only));at_builtin;refine Kd.R_append_rows Kd.string (w0:=w) w.heap.size rfl (.tmp 37) (.tmp 39) 46 9 (.string ⟨#[]⟩) 16 rfl Tryz.underlying46 info9 rfl (by decide) (by omega) v209 y208 l1_1 _ _ _ (fun _ => True) (fun _ => False) rfl rfl ?aO ?aR (fun _ _ h => h) (fun _ h => h.elim) ?aF ?aB ?aS ?aL ?_;(case aR => repeat (first|exact (Kd.C_below HR1_1.out HB.out)|(with_reducible refine Kd.C_alloc ?_ _)|(with_reducible refine Kd.C_drewN ?_ _)|(with_reducible refine Kd.C_drew ?_)));(case aB => exact zG_);(case aF => exact (fun _ _ => trivial));(case aO => exact (by (with_reducible repeat (first|apply Kd.R_alloc|apply Kd.R_drewN|apply Kd.R_drew));exact HO210.out));(case aS => exact (below_size zG_));(case aL => have:=LMc19.out;omega);intro v212 w34 ho hb hg hat;rw [← Ny211.out] at ho;have n0_:=zm_ (blk_grown (g:=gb203) (o:=.cells #[.slice A0_0 l0_0.length c0_0] 29 (0,0)) zK_ hg (Kd.R_ne HO210.out BK203.out (by decide)));have n1_:=zm_ (blk_grown (g:=gb204) (o:=.cells #[.string a1_0,.slice A1_1 l1_1.length c1_1,.slice A1_2 l1_2.length c1_2] 49 (0,0)) zK_ hg (Kd.R_ne HO210.out BK204.out (by decide)));have n2_:=zm_ (hb);have n3_:=zm_ (ho);clear BK203;clear BK204;clear HB;clear HO210;have BK203:=n0_;have BK204:=n1_;have HB:=n2_;have HO213:=n3_;clear n0_ n1_ n2_ n3_;clear ho hb hg hat;have hcz35_0 : w34.cell? ⟨gb204,0,none⟩ = some (.string a1_0):=(zc_ BK204.out 0).trans rfl;have hcz35_1 : w34.cell? ⟨gb204,1,none⟩ = some (.slice A1_1 l1_1.length c1_1):=(zc_ BK204.out 1).trans rfl;have hcz35_2 : w34.cell? ⟨gb204,2,none⟩ = some (.slice A1_2 l1_2.length c1_2):=(zc_ BK204.out 2).trans rfl;have hfz35_0:=zf_ BK204.out 0;have hfz35_1:=zf_ BK204.out 1;have hfz35_2:=zf_ BK204.out 2;have p214 : 0 ≤ (x5_2 : Int):=zo_;have q214 : x5_2 < (l1_2.length : Int):=zo_;obtain ⟨ad214,A214_0,c214_0,e214,hx214_0,hl214_0,hi214_0⟩:=at_T57 HR1_2.out x5_2 p214 q214;cases e214;replace hx214_0:=(HB.out.cell (zb_ w _ hx214_0)).trans hx214_0;have HR214_0:=zm_ hi214_0;have HC214_0:=zm_ hl214_0;clear hi214_0 hl214_0;replace p214:=eq_true p214;replace q214:=eq_true q214))
     go_loopg [6,7] k2 (fun kq v6 v7 w' => ∃ (x6_3 : List ByteArray) (x7_3 : Int),v7 = .int .i64 x7_3 ∧ Aside0 (spec_l06Rule.l1 kq x5_2 x6_3 x7_3 l0_0 a1_0 l1_1 l1_2 = some r) ∧ Aside0 (kq ≤ k2) ∧ Aside0 (Kd.R Kd.string 9 w' w.heap.size (fun _ => True) v6 x6_3) ∧ Aside0 (w'.heap[gb203]? = some (.cells #[(.slice A0_0 l0_0.length c0_0)] 29 (0,0))) ∧ Aside0 (w'.heap[gb204]? = some (.cells #[.string a1_0,(.slice A1_1 l1_1.length c1_1),(.slice (some ad214) l1_2.length c1_2)] 49 (0,0))) ∧ Aside0 (Below w.heap.size w w'))
     case atStart => exact ⟨(y211),(0),zV_,H',⟨Nat.le_refl _⟩,⟨zO_⟩,⟨zK_⟩,⟨zK_⟩,⟨zG_⟩⟩
     case round =>
      clear H'
      obtain ⟨x6_3,x7_3,rfl,HA,HK3,HO_6,BK203,BK204,HB⟩:=hrel
      cases gk with
      |zero => exact absurd HA.out (by simp [spec_l06Rule.l1])
      |succ k3 =>
       have H:=HA.out
       clear HA
       simp only [spec_l06Rule.l1] at H
       by_cases c36 : 0 ≤ x5_2
       rotate_left
       ·rw [if_neg c36] at H
        cases H
       rw [if_pos c36] at H
       have c36b0:=decide_eq_true c36
       clear c36
       by_cases c37 : x5_2 < (l1_2.length : Int)
       rotate_left
       ·rw [if_neg c37] at H
        cases H
       rw [if_pos c37] at H
       have c37b0:=decide_eq_true c37
       clear c37
       by_cases c38 : x7_3 < (((rd_T57 l1_2 x5_2).f0).length : Int)
       rotate_left
       ·rw [if_neg c38] at H
        have c38b0:=decide_eq_false c38
        clear c38
        have H':=zm_ H
        clear H
        have hnb94:=NB204_203.out
        have hnc94:=NB203_204.out
        have hcz95_0 : wr.cell? ⟨gb204,0,none⟩ = some (.string a1_0):=(zc_ BK204.out 0).trans rfl
        have hcz95_1 : wr.cell? ⟨gb204,1,none⟩ = some (.slice A1_1 l1_1.length c1_1):=(zc_ BK204.out 1).trans rfl
        have hcz95_2 : wr.cell? ⟨gb204,2,none⟩ = some (.slice (some ad214) l1_2.length c1_2):=(zc_ BK204.out 2).trans rfl
        have hfz95_0:=zf_ BK204.out 0
        have hfz95_1:=zf_ BK204.out 1
        have hfz95_2:=zf_ BK204.out 2
        have p215 : 0 ≤ (x5_2 : Int):=zo_
        have q215 : x5_2 < (l1_2.length : Int):=zo_
        obtain ⟨ad215,A215_0,c215_0,e215,hx215_0,hl215_0,hi215_0⟩:=at_T57 HR1_2.out x5_2 p215 q215
        obtain rfl : ad214 = ad215:=(by injection e215)
        replace hx215_0:=(HB.out.cell (zb_ w _ hx215_0)).trans hx215_0
        have HR215_0:=zm_ hi215_0
        have HC215_0:=zm_ hl215_0
        clear hi215_0 hl215_0
        replace p215:=eq_true p215
        replace q215:=eq_true q215
        go_wp2
        go_roundg k3
        case measure => have:=HJ2.out;have:=HK2.out;have:=HK3.out;omega
        case rel => exact ⟨(wrap64 (x5_2 + 1)),zV_,H',⟨by have:=HJ2.out;have:=HK2.out;have:=HK3.out;omega⟩,⟨zK_⟩,⟨zK_⟩,⟨zG_⟩⟩
       rw [if_pos c38] at H
       have c38b0:=decide_eq_true c38
       clear c38
       by_cases c39 : 0 ≤ x7_3
       rotate_left
       ·rw [if_neg c39] at H
        cases H
       rw [if_pos c39] at H
       have c39b0:=decide_eq_true c39
       clear c39
       obtain ⟨t219,A40,H⟩:=zJ_ H
       try dsimp only at H
       by_cases c41 : t219 ≥ 0
       rotate_left
       ·rw [if_neg c41] at H
        have c41b0 : decide (0 ≤ t219) = false:=decide_eq_false c41
        clear c41
        obtain ⟨⟨t225,t228⟩,A70,H⟩:=zJ_ H
        try dsimp only at H
        by_cases c71 : t228 = true
        rotate_left
        ·replace c71:=Bool.eq_false_iff.mpr c71
         subst c71
         rw [zF_] at H
         obtain rfl:=zi_ H
         have hnb83:=NB204_203.out
         have hnc83:=NB203_204.out
         have hcz84_0 : wr.cell? ⟨gb204,0,none⟩ = some (.string a1_0):=(zc_ BK204.out 0).trans rfl
         have hcz84_1 : wr.cell? ⟨gb204,1,none⟩ = some (.slice A1_1 l1_1.length c1_1):=(zc_ BK204.out 1).trans rfl
         have hcz84_2 : wr.cell? ⟨gb204,2,none⟩ = some (.slice (some ad214) l1_2.length c1_2):=(zc_ BK204.out 2).trans rfl
         have hfz84_0:=zf_ BK204.out 0
         have hfz84_1:=zf_ BK204.out 1
         have hfz84_2:=zf_ BK204.out 2
         have p215 : 0 ≤ (x5_2 : Int):=zo_
         have q215 : x5_2 < (l1_2.length : Int):=zo_
         obtain ⟨ad215,A215_0,c215_0,e215,hx215_0,hl215_0,hi215_0⟩:=at_T57 HR1_2.out x5_2 p215 q215
         obtain rfl : ad214 = ad215:=(by injection e215)
         replace hx215_0:=(HB.out.cell (zb_ w _ hx215_0)).trans hx215_0
         have HR215_0:=zm_ hi215_0
         have HC215_0:=zm_ hl215_0
         clear hi215_0 hl215_0
         replace p215:=eq_true p215
         replace q215:=eq_true q215
         have p216 : 0 ≤ (x5_2 : Int):=zo_
         have q216 : x5_2 < (l1_2.length : Int):=zo_
         obtain ⟨ad216,A216_0,c216_0,e216,hx216_0,hl216_0,hi216_0⟩:=at_T57 HR1_2.out x5_2 p216 q216
         obtain rfl : ad214 = ad216:=(by injection e216)
         replace hx216_0:=(HB.out.cell (zb_ w _ hx216_0)).trans hx216_0
         have HR216_0:=zm_ hi216_0
         have HC216_0:=zm_ hl216_0
         clear hi216_0 hl216_0
         replace p216:=eq_true p216
         replace q216:=eq_true q216
         have ea_:=Option.some.inj (hx215_0.symm.trans hx216_0)
         injection ea_ with ea_ en_ ec_
         subst ea_
         subst ec_
         clear en_
         have p217 : 0 ≤ (x7_3 : Int):=zo_
         have q217 : x7_3 < (((rd_T57 l1_2 x5_2).f0).length : Int):=zo_
         obtain ⟨ad217,A217_2,c217_2,e217,hx217_0,hx217_1,hx217_2,hx217_3,hl217_2,hi217_2⟩:=at_T76 HR216_0.out x7_3 p217 q217
         cases e217
         replace hx217_0:=(HB.out.cell (zb_ w _ hx217_0)).trans hx217_0
         replace hx217_1:=(HB.out.cell (zb_ w _ hx217_1)).trans hx217_1
         replace hx217_2:=(HB.out.cell (zb_ w _ hx217_2)).trans hx217_2
         replace hx217_3:=(HB.out.cell (zb_ w _ hx217_3)).trans hx217_3
         have HR217_2:=zm_ hi217_2
         have HC217_2:=zm_ hl217_2
         clear hi217_2 hl217_2
         replace p217:=eq_true p217
         replace q217:=eq_true q217
         go_wp2_with (first|((with_reducible refine gate_dst (N:=8) rfl ?_);(try (refine gate_guard (by rfl) ?_;dsimp only));refine box_event ?hg (N:=8) ?hd (cs:=#[.int .i64 0,.string (⟨#[]⟩ : ByteArray),.slice none 0 0,.string (⟨#[]⟩ : ByteArray)]) (t:=76) ?hr ?_;(case hd => rfl);(case hg => rfl);(case hr => first|(go_simp;done)|(go_simp;rfl));intro gb218 hg w85 hbox hb;have n0_:=zm_ (Kd.R_below zO_ hb);have n1_:=zm_ (blk_below (g:=gb203) (o:=.cells #[.slice A0_0 l0_0.length c0_0] 29 (0,0)) zK_ hb);have n2_:=zm_ (blk_below (g:=gb204) (o:=.cells #[.string a1_0,.slice A1_1 l1_1.length c1_1,.slice (some ad214) l1_2.length c1_2] 49 (0,0)) zK_ hb);have n3_:=zm_ (below_step zG_ hb);have n4_:=zm_ (hbox);have n5_:=zm_ ((by rw [hg];exact (below_size zG_) : w.heap.size ≤ gb218));have n6_:=zm_ ((by rw [hg];exact (below_size zG_) : w.heap.size ≤ gb218));have n7_:=zm_ ((zt9_11 : gb203 ≠ gb218));have n8_:=zm_ ((zt9_12 : gb218 ≠ gb203));have n9_:=zm_ ((zt9_9 : gb204 ≠ gb218));have n10_:=zm_ ((zt9_10 : gb218 ≠ gb204));clear HO_6;clear BK203;clear BK204;clear HB;have HO_6:=n0_;have BK203:=n1_;have BK204:=n2_;have HB:=n3_;have BK218:=n4_;have GW218:=n5_;have GE218:=n6_;have NB203_218:=n7_;have NB218_203:=n8_;have NB204_218:=n9_;have NB218_204:=n10_;clear n0_ n1_ n2_ n3_ n4_ n5_ n6_ n7_ n8_ n9_ n10_;clear hb hbox hg;have hnb86:=NB218_203.out;have hnc86:=NB203_218.out;have hnb87:=NB218_204.out;have hnc87:=NB204_218.out;have hcz88_0 : w85.cell? ⟨gb218,0,none⟩ = some (.int .i64 0):=(zc_ BK218.out 0).trans rfl;have hcz88_1 : w85.cell? ⟨gb218,1,none⟩ = some (.string (⟨#[]⟩ : ByteArray)):=(zc_ BK218.out 1).trans rfl;have hcz88_2 : w85.cell? ⟨gb218,2,none⟩ = some (.slice none 0 0):=(zc_ BK218.out 2).trans rfl;have hcz88_3 : w85.cell? ⟨gb218,3,none⟩ = some (.string (⟨#[]⟩ : ByteArray)):=(zc_ BK218.out 3).trans rfl;have hfz88_0:=zf_ BK218.out 0;have hfz88_1:=zf_ BK218.out 1;have hfz88_2:=zf_ BK218.out 2;have hfz88_3:=zf_ BK218.out 3;have hcz89_0 : w85.cell? ⟨gb203,0,none⟩ = some (.slice A0_0 l0_0.length c0_0):=(zc_ BK203.out 0).trans rfl;have hfz89_0:=zf_ BK203.out 0)|((with_reducible refine gate_callee (f:=17) rfl ?_);refine goesL_ (some 72) rfl rfl Tryz.func17 (by kernel_rfl) rfl #[.agg #[.slice A0_0 l0_0.length c0_0],.string ((rd_T76 ((rd_T57 l1_2 x5_2).f0) x7_3).f1)] rfl zq_ ?_;(with_reducible refine (spec_RuleAt.calls k3 _ _ l0_0 ((rd_T76 ((rd_T57 l1_2 x5_2).f0) x7_3).f1) t219 _ ?side1 ?side2 A40.out).mono ?_);(case side1 => exact Kd.C_below HR0_0.out zG_);(case side2 => exact HC0_0.out);rintro e w90 ⟨rfl,hb⟩;refine ⟨_,rfl,?_⟩;have n0_:=zm_ (Kd.R_below zt9_5 hb);have n1_:=zm_ (blk_below (g:=gb203) (o:=.cells #[.slice A0_0 l0_0.length c0_0] 29 (0,0)) zt9_7 hb);have n2_:=zm_ (blk_below (g:=gb204) (o:=.cells #[.string a1_0,.slice A1_1 l1_1.length c1_1,.slice (some ad214) l1_2.length c1_2] 49 (0,0)) zt9_8 hb);have n3_:=zm_ (blk_below (g:=gb218) (o:=.cells #[.int .i64 ((rd_T76 ((rd_T57 l1_2 x5_2).f0) x7_3).f0),.string ((rd_T76 ((rd_T57 l1_2 x5_2).f0) x7_3).f1),.slice A217_2 ((rd_T76 ((rd_T57 l1_2 x5_2).f0) x7_3).f2).length c217_2,.string ((rd_T76 ((rd_T57 l1_2 x5_2).f0) x7_3).f3)] 76 (0,0)) zt9_1 hb);have n4_:=zm_ (below_step zG_ hb);clear HO_6;clear BK203;clear BK204;clear BK218;clear HB;have HO_6:=n0_;have BK203:=n1_;have BK204:=n2_;have BK218:=n3_;have HB:=n4_;clear n0_ n1_ n2_ n3_ n4_;(try clear hb);have hcz91_0 : w90.cell? ⟨gb218,0,none⟩ = some (.int .i64 ((rd_T76 ((rd_T57 l1_2 x5_2).f0) x7_3).f0)):=(zc_ BK218.out 0).trans rfl;have hcz91_1 : w90.cell? ⟨gb218,1,none⟩ = some (.string ((rd_T76 ((rd_T57 l1_2 x5_2).f0) x7_3).f1)):=(zc_ BK218.out 1).trans rfl;have hcz91_2 : w90.cell? ⟨gb218,2,none⟩ = some (.slice A217_2 ((rd_T76 ((rd_T57 l1_2 x5_2).f0) x7_3).f2).length c217_2):=(zc_ BK218.out 2).trans rfl;have hcz91_3 : w90.cell? ⟨gb218,3,none⟩ = some (.string ((rd_T76 ((rd_T57 l1_2 x5_2).f0) x7_3).f3)):=(zc_ BK218.out 3).trans rfl;have hfz91_0:=zf_ BK218.out 0;have hfz91_1:=zf_ BK218.out 1;have hfz91_2:=zf_ BK218.out 2;have hfz91_3:=zf_ BK218.out 3;obtain ⟨Ao92,co92,eo92⟩:=Kd.R_slice HO_6.out;subst eo92)|((with_reducible refine gate_callee (f:=36) rfl ?_);refine goesL_ (some 86) rfl rfl Tryz.func36 (by kernel_rfl) rfl #[.agg #[.int .i64 ((rd_T76 ((rd_T57 l1_2 x5_2).f0) x7_3).f0),.string ((rd_T76 ((rd_T57 l1_2 x5_2).f0) x7_3).f1),.slice A217_2 ((rd_T76 ((rd_T57 l1_2 x5_2).f0) x7_3).f2).length c217_2,.string ((rd_T76 ((rd_T57 l1_2 x5_2).f0) x7_3).f3)],.slice Ao92 x6_3.length co92,.int .i64 (-1)] rfl zq_ ?_;(with_reducible refine (spec_l06Sym.calls k3 ((rd_T76 ((rd_T57 l1_2 x5_2).f0) x7_3).f0) ((rd_T76 ((rd_T57 l1_2 x5_2).f0) x7_3).f1) _ _ ((rd_T76 ((rd_T57 l1_2 x5_2).f0) x7_3).f2) ((rd_T76 ((rd_T57 l1_2 x5_2).f0) x7_3).f3) (fun k_ => some k_ = (.slice Ao92 x6_3.length co92 : Value).ownBlock) (.slice Ao92 x6_3.length co92) x6_3 (-1) t225 false w _ ?side1 ?side2 ?side3 ?side4 A70.out).mono ?_);(case side1 => repeat (first|(with_reducible first|exact HB.out|apply za_|apply zn_|apply zd_|refine zs_ ?_ GE203.out|refine zs_ ?_ GE204.out|refine zs_ ?_ GE218.out)|exact HB.out));(case side2 => exact Kd.C_kept_came k123_heap HR217_2.out zG_ (fun k_ hs_ => (fun e_ => Kd.R_base HO_6.out k_ e_.symm) hs_));(case side3 => exact HC217_2.out);(case side4 => exact Kd.R_tight rfl HO_6.out);rintro e w93 ⟨v226,rfl,ho0,hb,hkp⟩;refine ⟨_,rfl,?_⟩;have n0_:=zm_ (blk_kept zK_ hkp (fun hs_ => (fun e_ => (Kd.R_ne HO_6.out BK203.out (by decide)) e_) hs_));have n1_:=zm_ (blk_kept zK_ hkp (fun hs_ => (fun e_ => (Kd.R_ne HO_6.out BK204.out (by decide)) e_) hs_));have n2_:=zm_ (blk_kept zK_ hkp (fun hs_ => (fun e_ => (Kd.R_ne HO_6.out BK218.out (by decide)) e_) hs_));have n3_:=zm_ (Kd.R_mono (ok':=fun k_ => True) ho0 (fun k_ hk_ => trivial));have n4_:=zm_ (hb);clear BK203;clear BK204;clear BK218;clear HB;clear HO_6;have BK203:=n0_;have BK204:=n1_;have BK218:=n2_;have HO227:=n3_;have HB:=n4_;clear n0_ n1_ n2_ n3_ n4_;(try clear hb);(try clear hkp);(try clear ho0)))
         go_ret
         exact ⟨zE_,zG_⟩
        subst c71
        rw [if_pos rfl] at H
        have H':=zm_ H
        clear H
        have hnb72:=NB204_203.out
        have hnc72:=NB203_204.out
        have hcz73_0 : wr.cell? ⟨gb204,0,none⟩ = some (.string a1_0):=(zc_ BK204.out 0).trans rfl
        have hcz73_1 : wr.cell? ⟨gb204,1,none⟩ = some (.slice A1_1 l1_1.length c1_1):=(zc_ BK204.out 1).trans rfl
        have hcz73_2 : wr.cell? ⟨gb204,2,none⟩ = some (.slice (some ad214) l1_2.length c1_2):=(zc_ BK204.out 2).trans rfl
        have hfz73_0:=zf_ BK204.out 0
        have hfz73_1:=zf_ BK204.out 1
        have hfz73_2:=zf_ BK204.out 2
        have p215 : 0 ≤ (x5_2 : Int):=zo_
        have q215 : x5_2 < (l1_2.length : Int):=zo_
        obtain ⟨ad215,A215_0,c215_0,e215,hx215_0,hl215_0,hi215_0⟩:=at_T57 HR1_2.out x5_2 p215 q215
        obtain rfl : ad214 = ad215:=(by injection e215)
        replace hx215_0:=(HB.out.cell (zb_ w _ hx215_0)).trans hx215_0
        have HR215_0:=zm_ hi215_0
        have HC215_0:=zm_ hl215_0
        clear hi215_0 hl215_0
        replace p215:=eq_true p215
        replace q215:=eq_true q215
        have p216 : 0 ≤ (x5_2 : Int):=zo_
        have q216 : x5_2 < (l1_2.length : Int):=zo_
        obtain ⟨ad216,A216_0,c216_0,e216,hx216_0,hl216_0,hi216_0⟩:=at_T57 HR1_2.out x5_2 p216 q216
        obtain rfl : ad214 = ad216:=(by injection e216)
        replace hx216_0:=(HB.out.cell (zb_ w _ hx216_0)).trans hx216_0
        have HR216_0:=zm_ hi216_0
        have HC216_0:=zm_ hl216_0
        clear hi216_0 hl216_0
        replace p216:=eq_true p216
        replace q216:=eq_true q216
        have ea_:=Option.some.inj (hx215_0.symm.trans hx216_0)
        injection ea_ with ea_ en_ ec_
        subst ea_
        subst ec_
        clear en_
        have p217 : 0 ≤ (x7_3 : Int):=zo_
        have q217 : x7_3 < (((rd_T57 l1_2 x5_2).f0).length : Int):=zo_
        obtain ⟨ad217,A217_2,c217_2,e217,hx217_0,hx217_1,hx217_2,hx217_3,hl217_2,hi217_2⟩:=at_T76 HR216_0.out x7_3 p217 q217
        cases e217
        replace hx217_0:=(HB.out.cell (zb_ w _ hx217_0)).trans hx217_0
        replace hx217_1:=(HB.out.cell (zb_ w _ hx217_1)).trans hx217_1
        replace hx217_2:=(HB.out.cell (zb_ w _ hx217_2)).trans hx217_2
        replace hx217_3:=(HB.out.cell (zb_ w _ hx217_3)).trans hx217_3
        have HR217_2:=zm_ hi217_2
        have HC217_2:=zm_ hl217_2
        clear hi217_2 hl217_2
        replace p217:=eq_true p217
        replace q217:=eq_true q217
        go_wp2_with (first|((with_reducible refine gate_dst (N:=8) rfl ?_);(try (refine gate_guard (by rfl) ?_;dsimp only));refine box_event ?hg (N:=8) ?hd (cs:=#[.int .i64 0,.string (⟨#[]⟩ : ByteArray),.slice none 0 0,.string (⟨#[]⟩ : ByteArray)]) (t:=76) ?hr ?_;(case hd => rfl);(case hg => rfl);(case hr => first|(go_simp;done)|(go_simp;rfl));intro gb218 hg w74 hbox hb;have n0_:=zm_ (Kd.R_below zO_ hb);have n1_:=zm_ (blk_below (g:=gb203) (o:=.cells #[.slice A0_0 l0_0.length c0_0] 29 (0,0)) zK_ hb);have n2_:=zm_ (blk_below (g:=gb204) (o:=.cells #[.string a1_0,.slice A1_1 l1_1.length c1_1,.slice (some ad214) l1_2.length c1_2] 49 (0,0)) zK_ hb);have n3_:=zm_ (below_step zG_ hb);have n4_:=zm_ (hbox);have n5_:=zm_ ((by rw [hg];exact (below_size zG_) : w.heap.size ≤ gb218));have n6_:=zm_ ((by rw [hg];exact (below_size zG_) : w.heap.size ≤ gb218));have n7_:=zm_ ((zt9_11 : gb203 ≠ gb218));have n8_:=zm_ ((zt9_12 : gb218 ≠ gb203));have n9_:=zm_ ((zt9_9 : gb204 ≠ gb218));have n10_:=zm_ ((zt9_10 : gb218 ≠ gb204));clear HO_6;clear BK203;clear BK204;clear HB;have HO_6:=n0_;have BK203:=n1_;have BK204:=n2_;have HB:=n3_;have BK218:=n4_;have GW218:=n5_;have GE218:=n6_;have NB203_218:=n7_;have NB218_203:=n8_;have NB204_218:=n9_;have NB218_204:=n10_;clear n0_ n1_ n2_ n3_ n4_ n5_ n6_ n7_ n8_ n9_ n10_;clear hb hbox hg;have hnb75:=NB218_203.out;have hnc75:=NB203_218.out;have hnb76:=NB218_204.out;have hnc76:=NB204_218.out;have hcz77_0 : w74.cell? ⟨gb218,0,none⟩ = some (.int .i64 0):=(zc_ BK218.out 0).trans rfl;have hcz77_1 : w74.cell? ⟨gb218,1,none⟩ = some (.string (⟨#[]⟩ : ByteArray)):=(zc_ BK218.out 1).trans rfl;have hcz77_2 : w74.cell? ⟨gb218,2,none⟩ = some (.slice none 0 0):=(zc_ BK218.out 2).trans rfl;have hcz77_3 : w74.cell? ⟨gb218,3,none⟩ = some (.string (⟨#[]⟩ : ByteArray)):=(zc_ BK218.out 3).trans rfl;have hfz77_0:=zf_ BK218.out 0;have hfz77_1:=zf_ BK218.out 1;have hfz77_2:=zf_ BK218.out 2;have hfz77_3:=zf_ BK218.out 3;have hcz78_0 : w74.cell? ⟨gb203,0,none⟩ = some (.slice A0_0 l0_0.length c0_0):=(zc_ BK203.out 0).trans rfl;have hfz78_0:=zf_ BK203.out 0)|((with_reducible refine gate_callee (f:=17) rfl ?_);refine goesL_ (some 72) rfl rfl Tryz.func17 (by kernel_rfl) rfl #[.agg #[.slice A0_0 l0_0.length c0_0],.string ((rd_T76 ((rd_T57 l1_2 x5_2).f0) x7_3).f1)] rfl zq_ ?_;(with_reducible refine (spec_RuleAt.calls k3 _ _ l0_0 ((rd_T76 ((rd_T57 l1_2 x5_2).f0) x7_3).f1) t219 _ ?side1 ?side2 A40.out).mono ?_);(case side1 => exact Kd.C_below HR0_0.out zG_);(case side2 => exact HC0_0.out);rintro e w79 ⟨rfl,hb⟩;refine ⟨_,rfl,?_⟩;have n0_:=zm_ (Kd.R_below zt9_5 hb);have n1_:=zm_ (blk_below (g:=gb203) (o:=.cells #[.slice A0_0 l0_0.length c0_0] 29 (0,0)) zt9_7 hb);have n2_:=zm_ (blk_below (g:=gb204) (o:=.cells #[.string a1_0,.slice A1_1 l1_1.length c1_1,.slice (some ad214) l1_2.length c1_2] 49 (0,0)) zt9_8 hb);have n3_:=zm_ (blk_below (g:=gb218) (o:=.cells #[.int .i64 ((rd_T76 ((rd_T57 l1_2 x5_2).f0) x7_3).f0),.string ((rd_T76 ((rd_T57 l1_2 x5_2).f0) x7_3).f1),.slice A217_2 ((rd_T76 ((rd_T57 l1_2 x5_2).f0) x7_3).f2).length c217_2,.string ((rd_T76 ((rd_T57 l1_2 x5_2).f0) x7_3).f3)] 76 (0,0)) zt9_1 hb);have n4_:=zm_ (below_step zG_ hb);clear HO_6;clear BK203;clear BK204;clear BK218;clear HB;have HO_6:=n0_;have BK203:=n1_;have BK204:=n2_;have BK218:=n3_;have HB:=n4_;clear n0_ n1_ n2_ n3_ n4_;(try clear hb);have hcz80_0 : w79.cell? ⟨gb218,0,none⟩ = some (.int .i64 ((rd_T76 ((rd_T57 l1_2 x5_2).f0) x7_3).f0)):=(zc_ BK218.out 0).trans rfl;have hcz80_1 : w79.cell? ⟨gb218,1,none⟩ = some (.string ((rd_T76 ((rd_T57 l1_2 x5_2).f0) x7_3).f1)):=(zc_ BK218.out 1).trans rfl;have hcz80_2 : w79.cell? ⟨gb218,2,none⟩ = some (.slice A217_2 ((rd_T76 ((rd_T57 l1_2 x5_2).f0) x7_3).f2).length c217_2):=(zc_ BK218.out 2).trans rfl;have hcz80_3 : w79.cell? ⟨gb218,3,none⟩ = some (.string ((rd_T76 ((rd_T57 l1_2 x5_2).f0) x7_3).f3)):=(zc_ BK218.out 3).trans rfl;have hfz80_0:=zf_ BK218.out 0;have hfz80_1:=zf_ BK218.out 1;have hfz80_2:=zf_ BK218.out 2;have hfz80_3:=zf_ BK218.out 3;obtain ⟨Ao81,co81,eo81⟩:=Kd.R_slice HO_6.out;subst eo81)|((with_reducible refine gate_callee (f:=36) rfl ?_);refine goesL_ (some 86) rfl rfl Tryz.func36 (by kernel_rfl) rfl #[.agg #[.int .i64 ((rd_T76 ((rd_T57 l1_2 x5_2).f0) x7_3).f0),.string ((rd_T76 ((rd_T57 l1_2 x5_2).f0) x7_3).f1),.slice A217_2 ((rd_T76 ((rd_T57 l1_2 x5_2).f0) x7_3).f2).length c217_2,.string ((rd_T76 ((rd_T57 l1_2 x5_2).f0) x7_3).f3)],.slice Ao81 x6_3.length co81,.int .i64 (-1)] rfl zq_ ?_;(with_reducible refine (spec_l06Sym.calls k3 ((rd_T76 ((rd_T57 l1_2 x5_2).f0) x7_3).f0) ((rd_T76 ((rd_T57 l1_2 x5_2).f0) x7_3).f1) _ _ ((rd_T76 ((rd_T57 l1_2 x5_2).f0) x7_3).f2) ((rd_T76 ((rd_T57 l1_2 x5_2).f0) x7_3).f3) (fun k_ => some k_ = (.slice Ao81 x6_3.length co81 : Value).ownBlock) (.slice Ao81 x6_3.length co81) x6_3 (-1) t225 true w _ ?side1 ?side2 ?side3 ?side4 A70.out).mono ?_);(case side1 => repeat (first|(with_reducible first|exact HB.out|apply za_|apply zn_|apply zd_|refine zs_ ?_ GE203.out|refine zs_ ?_ GE204.out|refine zs_ ?_ GE218.out)|exact HB.out));(case side2 => exact Kd.C_kept_came k123_heap HR217_2.out zG_ (fun k_ hs_ => (fun e_ => Kd.R_base HO_6.out k_ e_.symm) hs_));(case side3 => exact HC217_2.out);(case side4 => exact Kd.R_tight rfl HO_6.out);rintro e w82 ⟨v226,rfl,ho0,hb,hkp⟩;refine ⟨_,rfl,?_⟩;have n0_:=zm_ (blk_kept zK_ hkp (fun hs_ => (fun e_ => (Kd.R_ne HO_6.out BK203.out (by decide)) e_) hs_));have n1_:=zm_ (blk_kept zK_ hkp (fun hs_ => (fun e_ => (Kd.R_ne HO_6.out BK204.out (by decide)) e_) hs_));have n2_:=zm_ (blk_kept zK_ hkp (fun hs_ => (fun e_ => (Kd.R_ne HO_6.out BK218.out (by decide)) e_) hs_));have n3_:=zm_ (Kd.R_mono (ok':=fun k_ => True) ho0 (fun k_ hk_ => trivial));have n4_:=zm_ (hb);clear BK203;clear BK204;clear BK218;clear HB;clear HO_6;have BK203:=n0_;have BK204:=n1_;have BK218:=n2_;have HO227:=n3_;have HB:=n4_;clear n0_ n1_ n2_ n3_ n4_;(try clear hb);(try clear hkp);(try clear ho0)))
        go_roundg k3
        case measure => have:=HJ2.out;have:=HK2.out;have:=HK3.out;omega
        case rel => exact ⟨(t225),(wrap64 (x7_3 + 1)),zV_,H',⟨by have:=HJ2.out;have:=HK2.out;have:=HK3.out;omega⟩,⟨zO_⟩,⟨zK_⟩,⟨zK_⟩,⟨zG_⟩⟩
       rw [if_pos c41] at H
       have c41b0 : decide (0 ≤ t219) = true:=decide_eq_true c41
       clear c41
       by_cases c42 : 0 ≤ t219
       rotate_left
       ·rw [if_neg c42] at H
        cases H
       rw [if_pos c42] at H
       have c42b0:=decide_eq_true c42
       clear c42
       by_cases c43 : t219 < (l0_0.length : Int)
       rotate_left
       ·rw [if_neg c43] at H
        cases H
       rw [if_pos c43] at H
       have c43b0:=decide_eq_true c43
       clear c43
       obtain ⟨⟨t221,t224⟩,A44,H⟩:=zJ_ H
       try dsimp only at H
       by_cases c45 : t224 = true
       rotate_left
       ·replace c45:=Bool.eq_false_iff.mpr c45
        subst c45
        rw [zF_] at H
        obtain rfl:=zi_ H
        have hnb58:=NB204_203.out
        have hnc58:=NB203_204.out
        have hcz59_0 : wr.cell? ⟨gb204,0,none⟩ = some (.string a1_0):=(zc_ BK204.out 0).trans rfl
        have hcz59_1 : wr.cell? ⟨gb204,1,none⟩ = some (.slice A1_1 l1_1.length c1_1):=(zc_ BK204.out 1).trans rfl
        have hcz59_2 : wr.cell? ⟨gb204,2,none⟩ = some (.slice (some ad214) l1_2.length c1_2):=(zc_ BK204.out 2).trans rfl
        have hfz59_0:=zf_ BK204.out 0
        have hfz59_1:=zf_ BK204.out 1
        have hfz59_2:=zf_ BK204.out 2
        have p215 : 0 ≤ (x5_2 : Int):=zo_
        have q215 : x5_2 < (l1_2.length : Int):=zo_
        obtain ⟨ad215,A215_0,c215_0,e215,hx215_0,hl215_0,hi215_0⟩:=at_T57 HR1_2.out x5_2 p215 q215
        obtain rfl : ad214 = ad215:=(by injection e215)
        replace hx215_0:=(HB.out.cell (zb_ w _ hx215_0)).trans hx215_0
        have HR215_0:=zm_ hi215_0
        have HC215_0:=zm_ hl215_0
        clear hi215_0 hl215_0
        replace p215:=eq_true p215
        replace q215:=eq_true q215
        have p216 : 0 ≤ (x5_2 : Int):=zo_
        have q216 : x5_2 < (l1_2.length : Int):=zo_
        obtain ⟨ad216,A216_0,c216_0,e216,hx216_0,hl216_0,hi216_0⟩:=at_T57 HR1_2.out x5_2 p216 q216
        obtain rfl : ad214 = ad216:=(by injection e216)
        replace hx216_0:=(HB.out.cell (zb_ w _ hx216_0)).trans hx216_0
        have HR216_0:=zm_ hi216_0
        have HC216_0:=zm_ hl216_0
        clear hi216_0 hl216_0
        replace p216:=eq_true p216
        replace q216:=eq_true q216
        have ea_:=Option.some.inj (hx215_0.symm.trans hx216_0)
        injection ea_ with ea_ en_ ec_
        subst ea_
        subst ec_
        clear en_
        have p217 : 0 ≤ (x7_3 : Int):=zo_
        have q217 : x7_3 < (((rd_T57 l1_2 x5_2).f0).length : Int):=zo_
        obtain ⟨ad217,A217_2,c217_2,e217,hx217_0,hx217_1,hx217_2,hx217_3,hl217_2,hi217_2⟩:=at_T76 HR216_0.out x7_3 p217 q217
        cases e217
        replace hx217_0:=(HB.out.cell (zb_ w _ hx217_0)).trans hx217_0
        replace hx217_1:=(HB.out.cell (zb_ w _ hx217_1)).trans hx217_1
        replace hx217_2:=(HB.out.cell (zb_ w _ hx217_2)).trans hx217_2
        replace hx217_3:=(HB.out.cell (zb_ w _ hx217_3)).trans hx217_3
        have HR217_2:=zm_ hi217_2
        have HC217_2:=zm_ hl217_2
        clear hi217_2 hl217_2
        replace p217:=eq_true p217
        replace q217:=eq_true q217
        go_wp2_with (first|((with_reducible refine gate_dst (N:=8) rfl ?_);(try (refine gate_guard (by rfl) ?_;dsimp only));refine box_event ?hg (N:=8) ?hd (cs:=#[.int .i64 0,.string (⟨#[]⟩ : ByteArray),.slice none 0 0,.string (⟨#[]⟩ : ByteArray)]) (t:=76) ?hr ?_;(case hd => rfl);(case hg => rfl);(case hr => first|(go_simp;done)|(go_simp;rfl));intro gb218 hg w60 hbox hb;have n0_:=zm_ (Kd.R_below zO_ hb);have n1_:=zm_ (blk_below (g:=gb203) (o:=.cells #[.slice A0_0 l0_0.length c0_0] 29 (0,0)) zK_ hb);have n2_:=zm_ (blk_below (g:=gb204) (o:=.cells #[.string a1_0,.slice A1_1 l1_1.length c1_1,.slice (some ad214) l1_2.length c1_2] 49 (0,0)) zK_ hb);have n3_:=zm_ (below_step zG_ hb);have n4_:=zm_ (hbox);have n5_:=zm_ ((by rw [hg];exact (below_size zG_) : w.heap.size ≤ gb218));have n6_:=zm_ ((by rw [hg];exact (below_size zG_) : w.heap.size ≤ gb218));have n7_:=zm_ ((zt9_11 : gb203 ≠ gb218));have n8_:=zm_ ((zt9_12 : gb218 ≠ gb203));have n9_:=zm_ ((zt9_9 : gb204 ≠ gb218));have n10_:=zm_ ((zt9_10 : gb218 ≠ gb204));clear HO_6;clear BK203;clear BK204;clear HB;have HO_6:=n0_;have BK203:=n1_;have BK204:=n2_;have HB:=n3_;have BK218:=n4_;have GW218:=n5_;have GE218:=n6_;have NB203_218:=n7_;have NB218_203:=n8_;have NB204_218:=n9_;have NB218_204:=n10_;clear n0_ n1_ n2_ n3_ n4_ n5_ n6_ n7_ n8_ n9_ n10_;clear hb hbox hg;have hnb61:=NB218_203.out;have hnc61:=NB203_218.out;have hnb62:=NB218_204.out;have hnc62:=NB204_218.out;have hcz63_0 : w60.cell? ⟨gb218,0,none⟩ = some (.int .i64 0):=(zc_ BK218.out 0).trans rfl;have hcz63_1 : w60.cell? ⟨gb218,1,none⟩ = some (.string (⟨#[]⟩ : ByteArray)):=(zc_ BK218.out 1).trans rfl;have hcz63_2 : w60.cell? ⟨gb218,2,none⟩ = some (.slice none 0 0):=(zc_ BK218.out 2).trans rfl;have hcz63_3 : w60.cell? ⟨gb218,3,none⟩ = some (.string (⟨#[]⟩ : ByteArray)):=(zc_ BK218.out 3).trans rfl;have hfz63_0:=zf_ BK218.out 0;have hfz63_1:=zf_ BK218.out 1;have hfz63_2:=zf_ BK218.out 2;have hfz63_3:=zf_ BK218.out 3;have hcz64_0 : w60.cell? ⟨gb203,0,none⟩ = some (.slice A0_0 l0_0.length c0_0):=(zc_ BK203.out 0).trans rfl;have hfz64_0:=zf_ BK203.out 0)|((with_reducible refine gate_callee (f:=17) rfl ?_);refine goesL_ (some 72) rfl rfl Tryz.func17 (by kernel_rfl) rfl #[.agg #[.slice A0_0 l0_0.length c0_0],.string ((rd_T76 ((rd_T57 l1_2 x5_2).f0) x7_3).f1)] rfl zq_ ?_;(with_reducible refine (spec_RuleAt.calls k3 _ _ l0_0 ((rd_T76 ((rd_T57 l1_2 x5_2).f0) x7_3).f1) t219 _ ?side1 ?side2 A40.out).mono ?_);(case side1 => exact Kd.C_below HR0_0.out zG_);(case side2 => exact HC0_0.out);rintro e w65 ⟨rfl,hb⟩;refine ⟨_,rfl,?_⟩;have n0_:=zm_ (Kd.R_below zt9_5 hb);have n1_:=zm_ (blk_below (g:=gb203) (o:=.cells #[.slice A0_0 l0_0.length c0_0] 29 (0,0)) zt9_7 hb);have n2_:=zm_ (blk_below (g:=gb204) (o:=.cells #[.string a1_0,.slice A1_1 l1_1.length c1_1,.slice (some ad214) l1_2.length c1_2] 49 (0,0)) zt9_8 hb);have n3_:=zm_ (blk_below (g:=gb218) (o:=.cells #[.int .i64 ((rd_T76 ((rd_T57 l1_2 x5_2).f0) x7_3).f0),.string ((rd_T76 ((rd_T57 l1_2 x5_2).f0) x7_3).f1),.slice A217_2 ((rd_T76 ((rd_T57 l1_2 x5_2).f0) x7_3).f2).length c217_2,.string ((rd_T76 ((rd_T57 l1_2 x5_2).f0) x7_3).f3)] 76 (0,0)) zt9_1 hb);have n4_:=zm_ (below_step zG_ hb);clear HO_6;clear BK203;clear BK204;clear BK218;clear HB;have HO_6:=n0_;have BK203:=n1_;have BK204:=n2_;have BK218:=n3_;have HB:=n4_;clear n0_ n1_ n2_ n3_ n4_;(try clear hb);have hcz66_0 : w65.cell? ⟨gb203,0,none⟩ = some (.slice A0_0 l0_0.length c0_0):=(zc_ BK203.out 0).trans rfl;have hfz66_0:=zf_ BK203.out 0;have p220 : 0 ≤ (t219 : Int):=zo_;have q220 : t219 < (l0_0.length : Int):=zo_;obtain ⟨ad220,A220_1,c220_1,A220_2,c220_2,e220,hx220_0,hx220_1,hx220_2,hl220_1,hi220_1,hl220_2,hi220_2⟩:=at_T49 HR0_0.out t219 p220 q220;cases e220;replace hx220_0:=(HB.out.cell (zb_ w _ hx220_0)).trans hx220_0;replace hx220_1:=(HB.out.cell (zb_ w _ hx220_1)).trans hx220_1;replace hx220_2:=(HB.out.cell (zb_ w _ hx220_2)).trans hx220_2;have HR220_1:=zm_ hi220_1;have HC220_1:=zm_ hl220_1;clear hi220_1 hl220_1;have HR220_2:=zm_ hi220_2;have HC220_2:=zm_ hl220_2;clear hi220_2 hl220_2;replace p220:=eq_true p220;replace q220:=eq_true q220;have hcz67_0 : w65.cell? ⟨gb218,0,none⟩ = some (.int .i64 ((rd_T76 ((rd_T57 l1_2 x5_2).f0) x7_3).f0)):=(zc_ BK218.out 0).trans rfl;have hcz67_1 : w65.cell? ⟨gb218,1,none⟩ = some (.string ((rd_T76 ((rd_T57 l1_2 x5_2).f0) x7_3).f1)):=(zc_ BK218.out 1).trans rfl;have hcz67_2 : w65.cell? ⟨gb218,2,none⟩ = some (.slice A217_2 ((rd_T76 ((rd_T57 l1_2 x5_2).f0) x7_3).f2).length c217_2):=(zc_ BK218.out 2).trans rfl;have hcz67_3 : w65.cell? ⟨gb218,3,none⟩ = some (.string ((rd_T76 ((rd_T57 l1_2 x5_2).f0) x7_3).f3)):=(zc_ BK218.out 3).trans rfl;have hfz67_0:=zf_ BK218.out 0;have hfz67_1:=zf_ BK218.out 1;have hfz67_2:=zf_ BK218.out 2;have hfz67_3:=zf_ BK218.out 3;obtain ⟨Ao68,co68,eo68⟩:=Kd.R_slice HO_6.out;subst eo68)|((with_reducible refine gate_callee (f:=36) rfl ?_);refine goesL_ (some 86) rfl rfl Tryz.func36 (by kernel_rfl) rfl #[.agg #[.int .i64 ((rd_T76 ((rd_T57 l1_2 x5_2).f0) x7_3).f0),.string ((rd_T76 ((rd_T57 l1_2 x5_2).f0) x7_3).f1),.slice A217_2 ((rd_T76 ((rd_T57 l1_2 x5_2).f0) x7_3).f2).length c217_2,.string ((rd_T76 ((rd_T57 l1_2 x5_2).f0) x7_3).f3)],.slice Ao68 x6_3.length co68,.int .i64 (((rd_T49 l0_0 t219).f1).length : Int)] rfl zq_ ?_;(with_reducible refine (spec_l06Sym.calls k3 ((rd_T76 ((rd_T57 l1_2 x5_2).f0) x7_3).f0) ((rd_T76 ((rd_T57 l1_2 x5_2).f0) x7_3).f1) _ _ ((rd_T76 ((rd_T57 l1_2 x5_2).f0) x7_3).f2) ((rd_T76 ((rd_T57 l1_2 x5_2).f0) x7_3).f3) (fun k_ => some k_ = (.slice Ao68 x6_3.length co68 : Value).ownBlock) (.slice Ao68 x6_3.length co68) x6_3 (((rd_T49 l0_0 t219).f1).length : Int) t221 false w _ ?side1 ?side2 ?side3 ?side4 A44.out).mono ?_);(case side1 => repeat (first|(with_reducible first|exact HB.out|apply za_|apply zn_|apply zd_|refine zs_ ?_ GE203.out|refine zs_ ?_ GE204.out|refine zs_ ?_ GE218.out)|exact HB.out));(case side2 => exact Kd.C_kept_came k123_heap HR217_2.out zG_ (fun k_ hs_ => (fun e_ => Kd.R_base HO_6.out k_ e_.symm) hs_));(case side3 => exact HC217_2.out);(case side4 => exact Kd.R_tight rfl HO_6.out);rintro e w69 ⟨v222,rfl,ho0,hb,hkp⟩;refine ⟨_,rfl,?_⟩;have n0_:=zm_ (blk_kept zK_ hkp (fun hs_ => (fun e_ => (Kd.R_ne HO_6.out BK203.out (by decide)) e_) hs_));have n1_:=zm_ (blk_kept zK_ hkp (fun hs_ => (fun e_ => (Kd.R_ne HO_6.out BK204.out (by decide)) e_) hs_));have n2_:=zm_ (blk_kept zK_ hkp (fun hs_ => (fun e_ => (Kd.R_ne HO_6.out BK218.out (by decide)) e_) hs_));have n3_:=zm_ (Kd.R_mono (ok':=fun k_ => True) ho0 (fun k_ hk_ => trivial));have n4_:=zm_ (hb);clear BK203;clear BK204;clear BK218;clear HB;clear HO_6;have BK203:=n0_;have BK204:=n1_;have BK218:=n2_;have HO223:=n3_;have HB:=n4_;clear n0_ n1_ n2_ n3_ n4_;(try clear hb);(try clear hkp);(try clear ho0)))
        go_ret
        exact ⟨zE_,zG_⟩
       subst c45
       rw [if_pos rfl] at H
       have H':=zm_ H
       clear H
       have hnb46:=NB204_203.out
       have hnc46:=NB203_204.out
       have hcz47_0 : wr.cell? ⟨gb204,0,none⟩ = some (.string a1_0):=(zc_ BK204.out 0).trans rfl
       have hcz47_1 : wr.cell? ⟨gb204,1,none⟩ = some (.slice A1_1 l1_1.length c1_1):=(zc_ BK204.out 1).trans rfl
       have hcz47_2 : wr.cell? ⟨gb204,2,none⟩ = some (.slice (some ad214) l1_2.length c1_2):=(zc_ BK204.out 2).trans rfl
       have hfz47_0:=zf_ BK204.out 0
       have hfz47_1:=zf_ BK204.out 1
       have hfz47_2:=zf_ BK204.out 2
       have p215 : 0 ≤ (x5_2 : Int):=zo_
       have q215 : x5_2 < (l1_2.length : Int):=zo_
       obtain ⟨ad215,A215_0,c215_0,e215,hx215_0,hl215_0,hi215_0⟩:=at_T57 HR1_2.out x5_2 p215 q215
       obtain rfl : ad214 = ad215:=(by injection e215)
       replace hx215_0:=(HB.out.cell (zb_ w _ hx215_0)).trans hx215_0
       have HR215_0:=zm_ hi215_0
       have HC215_0:=zm_ hl215_0
       clear hi215_0 hl215_0
       replace p215:=eq_true p215
       replace q215:=eq_true q215
       have p216 : 0 ≤ (x5_2 : Int):=zo_
       have q216 : x5_2 < (l1_2.length : Int):=zo_
       obtain ⟨ad216,A216_0,c216_0,e216,hx216_0,hl216_0,hi216_0⟩:=at_T57 HR1_2.out x5_2 p216 q216
       obtain rfl : ad214 = ad216:=(by injection e216)
       replace hx216_0:=(HB.out.cell (zb_ w _ hx216_0)).trans hx216_0
       have HR216_0:=zm_ hi216_0
       have HC216_0:=zm_ hl216_0
       clear hi216_0 hl216_0
       replace p216:=eq_true p216
       replace q216:=eq_true q216
       have ea_:=Option.some.inj (hx215_0.symm.trans hx216_0)
       injection ea_ with ea_ en_ ec_
       subst ea_
       subst ec_
       clear en_
       have p217 : 0 ≤ (x7_3 : Int):=zo_
       have q217 : x7_3 < (((rd_T57 l1_2 x5_2).f0).length : Int):=zo_
       obtain ⟨ad217,A217_2,c217_2,e217,hx217_0,hx217_1,hx217_2,hx217_3,hl217_2,hi217_2⟩:=at_T76 HR216_0.out x7_3 p217 q217
       cases e217
       replace hx217_0:=(HB.out.cell (zb_ w _ hx217_0)).trans hx217_0
       replace hx217_1:=(HB.out.cell (zb_ w _ hx217_1)).trans hx217_1
       replace hx217_2:=(HB.out.cell (zb_ w _ hx217_2)).trans hx217_2
       replace hx217_3:=(HB.out.cell (zb_ w _ hx217_3)).trans hx217_3
       have HR217_2:=zm_ hi217_2
       have HC217_2:=zm_ hl217_2
       clear hi217_2 hl217_2
       replace p217:=eq_true p217
       replace q217:=eq_true q217
       go_wp2_with (first|((with_reducible refine gate_dst (N:=8) rfl ?_);(try (refine gate_guard (by rfl) ?_;dsimp only));refine box_event ?hg (N:=8) ?hd (cs:=#[.int .i64 0,.string (⟨#[]⟩ : ByteArray),.slice none 0 0,.string (⟨#[]⟩ : ByteArray)]) (t:=76) ?hr ?_;(case hd => rfl);(case hg => rfl);(case hr => first|(go_simp;done)|(go_simp;rfl));intro gb218 hg w48 hbox hb;have n0_:=zm_ (Kd.R_below zO_ hb);have n1_:=zm_ (blk_below (g:=gb203) (o:=.cells #[.slice A0_0 l0_0.length c0_0] 29 (0,0)) zK_ hb);have n2_:=zm_ (blk_below (g:=gb204) (o:=.cells #[.string a1_0,.slice A1_1 l1_1.length c1_1,.slice (some ad214) l1_2.length c1_2] 49 (0,0)) zK_ hb);have n3_:=zm_ (below_step zG_ hb);have n4_:=zm_ (hbox);have n5_:=zm_ ((by rw [hg];exact (below_size zG_) : w.heap.size ≤ gb218));have n6_:=zm_ ((by rw [hg];exact (below_size zG_) : w.heap.size ≤ gb218));have n7_:=zm_ ((zt9_11 : gb203 ≠ gb218));have n8_:=zm_ ((zt9_12 : gb218 ≠ gb203));have n9_:=zm_ ((zt9_9 : gb204 ≠ gb218));have n10_:=zm_ ((zt9_10 : gb218 ≠ gb204));clear HO_6;clear BK203;clear BK204;clear HB;have HO_6:=n0_;have BK203:=n1_;have BK204:=n2_;have HB:=n3_;have BK218:=n4_;have GW218:=n5_;have GE218:=n6_;have NB203_218:=n7_;have NB218_203:=n8_;have NB204_218:=n9_;have NB218_204:=n10_;clear n0_ n1_ n2_ n3_ n4_ n5_ n6_ n7_ n8_ n9_ n10_;clear hb hbox hg;have hnb49:=NB218_203.out;have hnc49:=NB203_218.out;have hnb50:=NB218_204.out;have hnc50:=NB204_218.out;have hcz51_0 : w48.cell? ⟨gb218,0,none⟩ = some (.int .i64 0):=(zc_ BK218.out 0).trans rfl;have hcz51_1 : w48.cell? ⟨gb218,1,none⟩ = some (.string (⟨#[]⟩ : ByteArray)):=(zc_ BK218.out 1).trans rfl;have hcz51_2 : w48.cell? ⟨gb218,2,none⟩ = some (.slice none 0 0):=(zc_ BK218.out 2).trans rfl;have hcz51_3 : w48.cell? ⟨gb218,3,none⟩ = some (.string (⟨#[]⟩ : ByteArray)):=(zc_ BK218.out 3).trans rfl;have hfz51_0:=zf_ BK218.out 0;have hfz51_1:=zf_ BK218.out 1;have hfz51_2:=zf_ BK218.out 2;have hfz51_3:=zf_ BK218.out 3;have hcz52_0 : w48.cell? ⟨gb203,0,none⟩ = some (.slice A0_0 l0_0.length c0_0):=(zc_ BK203.out 0).trans rfl;have hfz52_0:=zf_ BK203.out 0)|((with_reducible refine gate_callee (f:=17) rfl ?_);refine goesL_ (some 72) rfl rfl Tryz.func17 (by kernel_rfl) rfl #[.agg #[.slice A0_0 l0_0.length c0_0],.string ((rd_T76 ((rd_T57 l1_2 x5_2).f0) x7_3).f1)] rfl zq_ ?_;(with_reducible refine (spec_RuleAt.calls k3 _ _ l0_0 ((rd_T76 ((rd_T57 l1_2 x5_2).f0) x7_3).f1) t219 _ ?side1 ?side2 A40.out).mono ?_);(case side1 => exact Kd.C_below HR0_0.out zG_);(case side2 => exact HC0_0.out);rintro e w53 ⟨rfl,hb⟩;refine ⟨_,rfl,?_⟩;have n0_:=zm_ (Kd.R_below zt9_5 hb);have n1_:=zm_ (blk_below (g:=gb203) (o:=.cells #[.slice A0_0 l0_0.length c0_0] 29 (0,0)) zt9_7 hb);have n2_:=zm_ (blk_below (g:=gb204) (o:=.cells #[.string a1_0,.slice A1_1 l1_1.length c1_1,.slice (some ad214) l1_2.length c1_2] 49 (0,0)) zt9_8 hb);have n3_:=zm_ (blk_below (g:=gb218) (o:=.cells #[.int .i64 ((rd_T76 ((rd_T57 l1_2 x5_2).f0) x7_3).f0),.string ((rd_T76 ((rd_T57 l1_2 x5_2).f0) x7_3).f1),.slice A217_2 ((rd_T76 ((rd_T57 l1_2 x5_2).f0) x7_3).f2).length c217_2,.string ((rd_T76 ((rd_T57 l1_2 x5_2).f0) x7_3).f3)] 76 (0,0)) zt9_1 hb);have n4_:=zm_ (below_step zG_ hb);clear HO_6;clear BK203;clear BK204;clear BK218;clear HB;have HO_6:=n0_;have BK203:=n1_;have BK204:=n2_;have BK218:=n3_;have HB:=n4_;clear n0_ n1_ n2_ n3_ n4_;(try clear hb);have hcz54_0 : w53.cell? ⟨gb203,0,none⟩ = some (.slice A0_0 l0_0.length c0_0):=(zc_ BK203.out 0).trans rfl;have hfz54_0:=zf_ BK203.out 0;have p220 : 0 ≤ (t219 : Int):=zo_;have q220 : t219 < (l0_0.length : Int):=zo_;obtain ⟨ad220,A220_1,c220_1,A220_2,c220_2,e220,hx220_0,hx220_1,hx220_2,hl220_1,hi220_1,hl220_2,hi220_2⟩:=at_T49 HR0_0.out t219 p220 q220;cases e220;replace hx220_0:=(HB.out.cell (zb_ w _ hx220_0)).trans hx220_0;replace hx220_1:=(HB.out.cell (zb_ w _ hx220_1)).trans hx220_1;replace hx220_2:=(HB.out.cell (zb_ w _ hx220_2)).trans hx220_2;have HR220_1:=zm_ hi220_1;have HC220_1:=zm_ hl220_1;clear hi220_1 hl220_1;have HR220_2:=zm_ hi220_2;have HC220_2:=zm_ hl220_2;clear hi220_2 hl220_2;replace p220:=eq_true p220;replace q220:=eq_true q220;have hcz55_0 : w53.cell? ⟨gb218,0,none⟩ = some (.int .i64 ((rd_T76 ((rd_T57 l1_2 x5_2).f0) x7_3).f0)):=(zc_ BK218.out 0).trans rfl;have hcz55_1 : w53.cell? ⟨gb218,1,none⟩ = some (.string ((rd_T76 ((rd_T57 l1_2 x5_2).f0) x7_3).f1)):=(zc_ BK218.out 1).trans rfl;have hcz55_2 : w53.cell? ⟨gb218,2,none⟩ = some (.slice A217_2 ((rd_T76 ((rd_T57 l1_2 x5_2).f0) x7_3).f2).length c217_2):=(zc_ BK218.out 2).trans rfl;have hcz55_3 : w53.cell? ⟨gb218,3,none⟩ = some (.string ((rd_T76 ((rd_T57 l1_2 x5_2).f0) x7_3).f3)):=(zc_ BK218.out 3).trans rfl;have hfz55_0:=zf_ BK218.out 0;have hfz55_1:=zf_ BK218.out 1;have hfz55_2:=zf_ BK218.out 2;have hfz55_3:=zf_ BK218.out 3;obtain ⟨Ao56,co56,eo56⟩:=Kd.R_slice HO_6.out;subst eo56)|((with_reducible refine gate_callee (f:=36) rfl ?_);refine goesL_ (some 86) rfl rfl Tryz.func36 (by kernel_rfl) rfl #[.agg #[.int .i64 ((rd_T76 ((rd_T57 l1_2 x5_2).f0) x7_3).f0),.string ((rd_T76 ((rd_T57 l1_2 x5_2).f0) x7_3).f1),.slice A217_2 ((rd_T76 ((rd_T57 l1_2 x5_2).f0) x7_3).f2).length c217_2,.string ((rd_T76 ((rd_T57 l1_2 x5_2).f0) x7_3).f3)],.slice Ao56 x6_3.length co56,.int .i64 (((rd_T49 l0_0 t219).f1).length : Int)] rfl zq_ ?_;(with_reducible refine (spec_l06Sym.calls k3 ((rd_T76 ((rd_T57 l1_2 x5_2).f0) x7_3).f0) ((rd_T76 ((rd_T57 l1_2 x5_2).f0) x7_3).f1) _ _ ((rd_T76 ((rd_T57 l1_2 x5_2).f0) x7_3).f2) ((rd_T76 ((rd_T57 l1_2 x5_2).f0) x7_3).f3) (fun k_ => some k_ = (.slice Ao56 x6_3.length co56 : Value).ownBlock) (.slice Ao56 x6_3.length co56) x6_3 (((rd_T49 l0_0 t219).f1).length : Int) t221 true w _ ?side1 ?side2 ?side3 ?side4 A44.out).mono ?_);(case side1 => repeat (first|(with_reducible first|exact HB.out|apply za_|apply zn_|apply zd_|refine zs_ ?_ GE203.out|refine zs_ ?_ GE204.out|refine zs_ ?_ GE218.out)|exact HB.out));(case side2 => exact Kd.C_kept_came k123_heap HR217_2.out zG_ (fun k_ hs_ => (fun e_ => Kd.R_base HO_6.out k_ e_.symm) hs_));(case side3 => exact HC217_2.out);(case side4 => exact Kd.R_tight rfl HO_6.out);rintro e w57 ⟨v222,rfl,ho0,hb,hkp⟩;refine ⟨_,rfl,?_⟩;have n0_:=zm_ (blk_kept zK_ hkp (fun hs_ => (fun e_ => (Kd.R_ne HO_6.out BK203.out (by decide)) e_) hs_));have n1_:=zm_ (blk_kept zK_ hkp (fun hs_ => (fun e_ => (Kd.R_ne HO_6.out BK204.out (by decide)) e_) hs_));have n2_:=zm_ (blk_kept zK_ hkp (fun hs_ => (fun e_ => (Kd.R_ne HO_6.out BK218.out (by decide)) e_) hs_));have n3_:=zm_ (Kd.R_mono (ok':=fun k_ => True) ho0 (fun k_ hk_ => trivial));have n4_:=zm_ (hb);clear BK203;clear BK204;clear BK218;clear HB;clear HO_6;have BK203:=n0_;have BK204:=n1_;have BK218:=n2_;have HO223:=n3_;have HB:=n4_;clear n0_ n1_ n2_ n3_ n4_;(try clear hb);(try clear hkp);(try clear ho0)))
       go_roundg k3
       case measure => have:=HJ2.out;have:=HK2.out;have:=HK3.out;omega
       case rel => exact ⟨(t221),(wrap64 (x7_3 + 1)),zV_,H',⟨by have:=HJ2.out;have:=HK2.out;have:=HK3.out;omega⟩,⟨zO_⟩,⟨zK_⟩,⟨zK_⟩,⟨zG_⟩⟩
end Go.Proofs.YtkbgmojomgelbaaGreat.MFnExactGrammarOk
