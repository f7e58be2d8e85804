import Derived.Test.YtkbgmojomgelbaaGreatMFnExactGrammarOkx0
import Derived.Test.YtkbgmojomgelbaaGreatMFnExactGrammarOkx2
import Derived.Test.YtkbgmojomgelbaaGreatMFnExactGrammarOkx9
namespace Go.Proofs.YtkbgmojomgelbaaGreat.MFnExactGrammarOk
open Go.RowKit Go.Proofs.YtkbgmojomgelbaaGreatW.PrintWords Go.Proofs.YtkbgmojomgelbaaGreatW.PrintLast Go.Proofs.YtkbgmojomgelbaaGreatW.PrintMore
attribute [local go_sem] max2_int min2_int max_two min_two max_three min_three max_four min_four
set_option linter.unusedVariables false
set_option linter.unusedSimpArgs false
set_option maxHeartbeats 8000000
set_option maxRecDepth 100000

mutual
def spec_GrammarOk.j0 : Nat → Bool → List (S49) → Option (Bool)
 |0,_,_ => none
 |k + 1,x17,x230000 => if x17 = true then (some false) else (spec_GrammarOk.l0 k 0 x230000)
def spec_GrammarOk.l0 : Nat → Int → List (S49) → Option (Bool)
 |0,_,_ => none
 |k + 1,x3,x230000 => if x3 < (x230000.length : Int) then (if 0 ≤ x3 then ((spec_RuleAt.f k x230000 ((rd_T49 x230000 x3).f0)).bind fun t233 => (if t233 = x3 then ((spec_l06Rule.f k x230000 ((rd_T49 x230000 x3).f0) ((rd_T49 x230000 x3).f1) ((rd_T49 x230000 x3).f2)).bind fun t235 => (if t235 = true then (spec_GrammarOk.l0 k (wrap64 (x3 + 1)) x230000) else (some false))) else (some false))) else (none)) else (some true)
end
def spec_GrammarOk.f (k : Nat) (l0_0 : List (S49)) : Option (Bool):=(spec_l01In.f (l0_0.length : Int) 1 30).bind fun t230 => (if t230 = true then (if 0 < (l0_0.length : Int) then (spec_GrammarOk.j0 k (decide ((((rd_T49 l0_0 0).f1).length : Int) > 0)) l0_0) else (none)) else (spec_GrammarOk.j0 k true l0_0))
def spec_GrammarOk.T6 : Bool × List (List Nat × List Nat):=(true,[([],[]),([],[]),([1],[1]),([],[]),([2,3],[2,3]),([4],[4]),([5],[5]),([0,6],[0,6]),([],[]),([7,8],[7,8]),([9,7],[9]),([10],[10]),([10],[10]),([12,10],[10,12]),([10],[10]),([13,14,10],[10,13,14]),([15,10],[10,15]),([11,16,10,10],[10,11,16]),([17,10],[10,17]),([10,18],[10,18])])
def spec_GrammarOk.B6 : List Nat:=[0,0,2,0,14,30,62,127,0,511,1023,2047,2047,6143,2047,30719,63487,131071,262143,524287]
theorem spec_GrammarOk.tab6 : rtab .any (opsOf Tryz.f6 6) = spec_GrammarOk.T6:=by kernel_rfl
theorem spec_GrammarOk.bits6 : waitsOk spec_GrammarOk.T6.2 spec_GrammarOk.B6 = true:=by kernel_rfl
theorem spec_GrammarOk.calls (k : Nat) (A0_0 : Option Addr) (c0_0 : Nat) (l0_0 : List (S49)) (r : Bool) (w : World) (hr0_0 : Kd.C k49 w A0_0 l0_0.length l0_0) (hc0_0 : l0_0.length ≤ c0_0) (h : spec_GrammarOk.f k l0_0 = some r) :
  Calls Tryz.prog 6 #[.agg #[.slice A0_0 l0_0.length c0_0]] w fun e w' => e = .returned (.bool r) ∧ Below w.heap.size w w':=by
 have hu29:=Tryz.underlying29
 have hu49:=Tryz.underlying49
 have HR0_0:=zm_ hr0_0
 have HC0_0:=zm_ hc0_0
 clear hr0_0 hc0_0
 have HB:=zm_ (Below.refl w.heap.size w)
 have H : ((spec_l01In.f (l0_0.length : Int) 1 30).bind fun t230 => (if t230 = true then (if 0 < (l0_0.length : Int) then (spec_GrammarOk.j0 k (decide ((((rd_T49 l0_0 0).f1).length : Int) > 0)) l0_0) else (none)) else (spec_GrammarOk.j0 k true l0_0))) = some r:=h
 clear h
 have HC2:=zm_ H
 clear H
 go_enter Tryz.func6,Tryz.ntmps6
 go_upto_region 1 with (first|((with_reducible refine gate_dst (N:=1) rfl ?_);(try (refine gate_guard (by rfl) ?_;dsimp only));refine box_event ?hg (N:=1) ?hd (cs:=#[.slice A0_0 l0_0.length c0_0]) (t:=29) ?hr ?_;(case hd => rfl);(case hg => rfl);(case hr => first|(go_simp;done)|(go_simp;rfl));intro gb229 hg w3 hbox hb;have n0_:=zm_ (below_step zB_ hb);have n1_:=zm_ (hbox);have n2_:=zm_ ((by rw [hg];exact (below_size zB_) : w.heap.size ≤ gb229));have n3_:=zm_ ((by rw [hg];exact (below_size zB_) : w.heap.size ≤ gb229));clear HB;have HB:=n0_;have BK229:=n1_;have GW229:=n2_;have GE229:=n3_;clear n0_ n1_ n2_ n3_;clear hb hbox hg))
 (try simp only [Act.put,List.setIfInBounds_toArray,List.set_cons_zero,List.set_cons_succ])
 go_cut [17] (fun v17 wc => ∃ (kq : Nat) (x17_1 : Bool),v17 = .bool x17_1 ∧ Aside0 (spec_GrammarOk.j0 kq x17_1 l0_0 = some r) ∧ Aside0 (kq ≤ k) ∧ Aside0 (wc.heap[gb229]? = some (.cells #[(.slice A0_0 l0_0.length c0_0)] 29 (0,0))) ∧ Aside0 (Below w.heap.size w wc))
 case first =>
  have H:=HC2.out
  clear HC2
  obtain ⟨t230,A4,H⟩:=zJ_ H
  try dsimp only at H
  by_cases c5 : t230 = true
  rotate_left
  ·replace c5:=Bool.eq_false_iff.mpr c5
   subst c5
   rw [zF_] at H
   have H':=zm_ H
   clear H
   have hcz8_0 : w3.cell? ⟨gb229,0,none⟩ = some (.slice A0_0 l0_0.length c0_0):=(zc_ BK229.out 0).trans rfl
   have hfz8_0:=zf_ BK229.out 0
   go_wp2_with (first|((with_reducible refine gate_callee (f:=16) rfl ?_);refine goesL_ (some 7) rfl rfl Tryz.func16 (by kernel_rfl) rfl #[.int .i64 (l0_0.length : Int),.int .i64 1,.int .i64 30] rfl zq_ ?_;(with_reducible refine (spec_l01In.calls (l0_0.length : Int) 1 30 false _ A4.out).mono ?_);rintro e w' ⟨rfl,⟨nd,rfl⟩⟩;refine ⟨_,rfl,?_⟩))
   go_meet
   case rel => exact ⟨_,(true),zV_,H',⟨by first|omega|exact Nat.le_refl _⟩,⟨zK_⟩,⟨zG_⟩⟩
  subst c5
  rw [if_pos rfl] at H
  by_cases c6 : 0 < (l0_0.length : Int)
  rotate_left
  ·rw [if_neg c6] at H
   cases H
  rw [if_pos c6] at H
  have c6b0:=decide_eq_true c6
  have c6b1 : decide (0 < l0_0.length) = true:=decide_eq_true (by omega)
  clear c6
  (first|rw [c6b0]|(simp only [i64_w,i32_w];rw [c6b0])|skip)
  have H':=zm_ H
  clear H
  have hcz7_0 : w3.cell? ⟨gb229,0,none⟩ = some (.slice A0_0 l0_0.length c0_0):=(zc_ BK229.out 0).trans rfl
  have hfz7_0:=zf_ BK229.out 0
  go_wp2_with (first|((with_reducible refine gate_callee (f:=16) rfl ?_);refine goesL_ (some 7) rfl rfl Tryz.func16 (by kernel_rfl) rfl #[.int .i64 (l0_0.length : Int),.int .i64 1,.int .i64 30] rfl zq_ ?_;(with_reducible refine (spec_l01In.calls (l0_0.length : Int) 1 30 true _ A4.out).mono ?_);rintro e w' ⟨rfl,⟨nd,rfl⟩⟩;refine ⟨_,rfl,?_⟩;have p231 : 0 ≤ (0 : Int):=(by omega);have q231 : 0 < (l0_0.length : Int):=zo_;obtain ⟨ad231,A231_1,c231_1,A231_2,c231_2,e231,hx231_0,hx231_1,hx231_2,hl231_1,hi231_1,hl231_2,hi231_2⟩:=at_T49 HR0_0.out 0 p231 q231;cases e231;have qi231 : (0 < l0_0.length) = True:=eq_true (by omega);(try rw [show ((0 : Int)).toNat = 0 from rfl] at hx231_0);(try rw [show 0 * 3 = 0 from rfl] at hx231_0);(try rw [Addr.add_zero'] at hx231_0);(try rw [show ((0 : Int)).toNat = 0 from rfl] at hx231_1);(try rw [show 0 * 3 = 0 from rfl] at hx231_1);(try rw [Addr.add_zero'] at hx231_1);(try rw [show ((0 : Int)).toNat = 0 from rfl] at hx231_2);(try rw [show 0 * 3 = 0 from rfl] at hx231_2);(try rw [Addr.add_zero'] at hx231_2);replace hx231_0:=(HB.out.cell (zb_ w _ hx231_0)).trans hx231_0;replace hx231_1:=(HB.out.cell (zb_ w _ hx231_1)).trans hx231_1;replace hx231_2:=(HB.out.cell (zb_ w _ hx231_2)).trans hx231_2;have HR231_1:=zm_ hi231_1;have HC231_1:=zm_ hl231_1;clear hi231_1 hl231_1;have HR231_2:=zm_ hi231_2;have HC231_2:=zm_ hl231_2;clear hi231_2 hl231_2;replace p231:=eq_true p231;replace q231:=eq_true q231))
  go_meet
  case rel => exact ⟨_,(decide ((((rd_T49 l0_0 0).f1).length : Int) > 0)),zV_,H',⟨by first|omega|exact Nat.le_refl _⟩,⟨zK_⟩,⟨zG_⟩⟩
 case rest =>
  clear HC2
  obtain ⟨kq,x17_1,rfl,HA,HJ1,BK229,HB⟩:=hcut
  cases kq with
  |zero => exact absurd HA.out (by simp [spec_GrammarOk.j0])
  |succ kj1 =>
   have H:=HA.out
   clear HA
   simp only [spec_GrammarOk.j0] at H
   by_cases c9 : x17_1 = true
   ·subst c9
    rw [if_pos rfl] at H
    obtain rfl:=zi_ H
    go_wp2
    go_ret
    exact ⟨zE_,zG_⟩
   replace c9:=Bool.eq_false_iff.mpr c9
   subst c9
   rw [zF_] at H
   have H':=zm_ H
   clear H
   go_wp2
   go_loopg [3] kj1 (fun kq v3 w' => ∃ (x3_2 : Int),v3 = .int .i64 x3_2 ∧ Aside0 (spec_GrammarOk.l0 kq x3_2 l0_0 = some r) ∧ Aside0 (kq ≤ kj1) ∧ Aside0 (w'.heap[gb229]? = some (.cells #[(.slice A0_0 l0_0.length c0_0)] 29 (0,0))) ∧ Aside0 (Below w.heap.size w w'))
   case atStart => exact ⟨(0),zV_,H',⟨Nat.le_refl _⟩,⟨zK_⟩,⟨zG_⟩⟩
   case round =>
    clear H'
    obtain ⟨x3_2,rfl,HA,HK2,BK229,HB⟩:=hrel
    cases gk with
    |zero => exact absurd HA.out (by simp [spec_GrammarOk.l0])
    |succ k2 =>
     have H:=HA.out
     clear HA
     simp only [spec_GrammarOk.l0] at H
     by_cases c10 : x3_2 < (l0_0.length : Int)
     rotate_left
     ·rw [if_neg c10] at H
      have c10b0:=decide_eq_false c10
      clear c10
      obtain rfl:=zi_ H
      have hcz27_0 : wr.cell? ⟨gb229,0,none⟩ = some (.slice A0_0 l0_0.length c0_0):=(zc_ BK229.out 0).trans rfl
      have hfz27_0:=zf_ BK229.out 0
      go_wp2
      go_ret
      exact ⟨zE_,zG_⟩


     rw [if_pos c10] at H
     have c10b0:=decide_eq_true c10
     clear c10
     by_cases c11 : 0 ≤ x3_2
     rotate_left
     ·rw [if_neg c11] at H
      cases H
     rw [if_pos c11] at H
     have c11b0:=decide_eq_true c11
     clear c11
     obtain ⟨t233,A12,H⟩:=zJ_ H
     try dsimp only at H
     by_cases c13 : t233 = x3_2
     rotate_left
     ·rw [if_neg c13] at H
      have c13b0 : (t233 == x3_2) = false:=beq_eq_false_iff_ne.mpr c13
      have c13b1 : (t233 != x3_2) = true:=bne_iff_ne.mpr c13
      obtain rfl:=zi_ H
      have hcz24_0 : wr.cell? ⟨gb229,0,none⟩ = some (.slice A0_0 l0_0.length c0_0):=(zc_ BK229.out 0).trans rfl
      have hfz24_0:=zf_ BK229.out 0
      try go_wp2
      have n0_:=zm_ (zr_ BK229.out)
      have n1_:=zm_ (zd_ HB.out)
      clear BK229
      clear HB
      have BK229:=n0_
      have HB:=n1_
      clear n0_ n1_
      have p232 : 0 ≤ (x3_2 : Int):=zo_
      have q232 : x3_2 < (l0_0.length : Int):=zo_
      obtain ⟨ad232,A232_1,c232_1,A232_2,c232_2,e232,hx232_0,hx232_1,hx232_2,hl232_1,hi232_1,hl232_2,hi232_2⟩:=at_T49 HR0_0.out x3_2 p232 q232
      have hw232_2:=hx232_2
      have hw232_1:=hx232_1
      have hw232_0:=hx232_0
      cases e232
      replace hx232_0:=(HB.out.cell (zb_ w _ hx232_0)).trans hx232_0
      replace hx232_1:=(HB.out.cell (zb_ w _ hx232_1)).trans hx232_1
      replace hx232_2:=(HB.out.cell (zb_ w _ hx232_2)).trans hx232_2
      have HR232_1:=zm_ hi232_1
      have HC232_1:=zm_ hl232_1
      clear hi232_1 hl232_1
      have HR232_2:=zm_ hi232_2
      have HC232_2:=zm_ hl232_2
      clear hi232_2 hl232_2
      replace p232:=eq_true p232
      replace q232:=eq_true q232
      refine start_ (n:=20) (S:=fun w' => w'.cell? ⟨gb229,0,none⟩ = some (.slice (some ad232) l0_0.length c0_0) ∧ w'.cell? (ad232.add ((x3_2).toNat * 3)) = some (.string ((rd_T49 l0_0 x3_2).f0)) ∧ w'.cell? ⟨(ad232.add ((x3_2).toNat * 3)).block,(ad232.add ((x3_2).toNat * 3)).off + 1,none⟩ = some (.slice A232_1 ((rd_T49 l0_0 x3_2).f1).length c232_1) ∧ w'.cell? ⟨(ad232.add ((x3_2).toNat * 3)).block,(ad232.add ((x3_2).toNat * 3)).off + 2,none⟩ = some (.slice A232_2 ((rd_T49 l0_0 x3_2).f2).length c232_2)) (ds:=[]) #[false,false,false,false,false,false,false,false,false,false,false,false,false,false,false,false,false,false,false,false] (by kernel_rfl) rfl rfl ⟨(zc_ BK229.out 0).trans rfl,((HB.out.cell (zb_ w _ hw232_0)).trans hw232_0),((HB.out.cell (zb_ w _ hw232_1)).trans hw232_1),((HB.out.cell (zb_ w _ hw232_2)).trans hw232_2)⟩ (fun hHeld => ?_);refine with_tabW spec_GrammarOk.tab6 spec_GrammarOk.bits6 (fun HT_ HW_ => ?_)
      generalize wr.drew = w25 at BK229 HB HR232_1 HR232_2 hx232_0 hx232_1 hx232_2 hHeld ⊢
      refine zp_ 1 (some 26) ?_
      refine zp_ 3 (some 28) ?_
      refine zp_ 8 (some 33) ?_
      refine zk2_ 0 (some 25) ?_
      refine zk2_ 2 (some 27) ?_
      refine zp_ 4 (some 29) ?_
      refine zp_ 5 (some 30) ?_
      refine zk2_ 6 (some 31) ?_
      refine one_ (i:=7) (N:=some 32) #[true,true,true,true,true,true,true,true,true,false,false,false,false,false,false,false,false,false,false,false] rfl rfl (one_of HT_.out (by kernel_rfl)) (by decide) (fun K hK => ?_)
      refine goes_ Tryz.func17 (by kernel_rfl) rfl #[.agg #[.slice (some ad232) l0_0.length c0_0],.string ((rd_T49 l0_0 x3_2).f0)] (by rfl) rfl rfl zq_ ?_
      with_reducible refine (spec_RuleAt.calls k2 _ _ l0_0 ((rd_T49 l0_0 x3_2).f0) t233 _ ?side1 ?side2 A12.out).mono ?_
      (case side1 => exact zP_)
      (case side2 => exact HC0_0.out)
      rintro e w26 ⟨rfl,hb⟩
      refine ⟨_,rfl,?_⟩
      have n0_:=zm_ (blk_below (g:=gb229) (o:=.cells #[.slice (some ad232) l0_0.length c0_0] 29 (0,0)) zK_ hb)
      have n1_:=zm_ (below_step zG_ hb)
      clear BK229
      clear HB
      have BK229:=n0_
      have HB:=n1_
      clear n0_ n1_
      (try clear hb)
      (try clear hb2)
      (try clear hk)
      (try clear hi)
      refine hK.out _ _ ⟨(zc_ BK229.out 0).trans rfl,((HB.out.cell (zb_ w _ hw232_0)).trans hw232_0),((HB.out.cell (zb_ w _ hw232_1)).trans hw232_1),((HB.out.cell (zb_ w _ hw232_2)).trans hw232_2)⟩ (fun hHeld => ?_)
      clear hK K
      refine zm2_ ?_
      refine zp_ 9 (some 34) ?_
      refine zp_ 10 (some 35) ?_
      refine pure_ (i:=11) (N:=some 36) (v:=undef) (a':=?_) #[true,true,true,true,true,true,true,true,true,true,true,true,false,false,false,false,false,false,false,false] rfl rfl (any_of HT_.out (by kernel_rfl)) (fun _ _ _ h => h) (Or.inr ⟨by rfl,rfl⟩) ?_ ?_
      rotate_left
      ·simp only [Act.put,List.setIfInBounds_toArray,List.set_cons_zero,List.set_cons_succ,i64_w,i32_w,IntKind.wrap_u8]
       rfl
      refine pure_ (i:=12) (N:=some 37) (v:=undef) (a':=?_) #[true,true,true,true,true,true,true,true,true,true,true,true,true,false,false,false,false,false,false,false] rfl rfl (any_of HT_.out (by kernel_rfl)) (fun _ _ _ h => h) (Or.inr ⟨by rfl,rfl⟩) ?_ ?_
      rotate_left
      ·simp only [Act.put,List.setIfInBounds_toArray,List.set_cons_zero,List.set_cons_succ,i64_w,i32_w,IntKind.wrap_u8]
       rfl
      refine pure_ (i:=13) (N:=some 38) (v:=undef) (a':=?_) #[true,true,true,true,true,true,true,true,true,true,true,true,true,true,false,false,false,false,false,false] rfl rfl (any_of HT_.out (by kernel_rfl)) (fun _ _ _ h => h) (Or.inr ⟨by rfl,rfl⟩) ?_ ?_
      rotate_left
      ·simp only [Act.put,List.setIfInBounds_toArray,List.set_cons_zero,List.set_cons_succ,i64_w,i32_w,IntKind.wrap_u8]
       rfl
      refine pure_ (i:=14) (N:=some 39) (v:=undef) (a':=?_) #[true,true,true,true,true,true,true,true,true,true,true,true,true,true,true,false,false,false,false,false] rfl rfl (any_of HT_.out (by kernel_rfl)) (fun _ _ _ h => h) (Or.inr ⟨by rfl,rfl⟩) ?_ ?_
      rotate_left
      ·simp only [Act.put,List.setIfInBounds_toArray,List.set_cons_zero,List.set_cons_succ,i64_w,i32_w,IntKind.wrap_u8]
       rfl
      refine pure_ (i:=15) (N:=some 40) (v:=undef) (a':=?_) #[true,true,true,true,true,true,true,true,true,true,true,true,true,true,true,true,false,false,false,false] rfl rfl (any_of HT_.out (by kernel_rfl)) (fun _ _ _ h => h) (Or.inr ⟨by rfl,rfl⟩) ?_ ?_
      rotate_left
      ·simp only [Act.put,List.setIfInBounds_toArray,List.set_cons_zero,List.set_cons_succ,i64_w,i32_w,IntKind.wrap_u8]
       rfl
      refine pure_ (i:=16) (N:=some 41) (v:=undef) (a':=?_) #[true,true,true,true,true,true,true,true,true,true,true,true,true,true,true,true,true,false,false,false] rfl rfl (any_of HT_.out (by kernel_rfl)) (fun _ _ _ h => h) (Or.inr ⟨by rfl,rfl⟩) ?_ ?_
      rotate_left
      ·simp only [Act.put,List.setIfInBounds_toArray,List.set_cons_zero,List.set_cons_succ,i64_w,i32_w,IntKind.wrap_u8]
       rfl
      refine pure_ (i:=17) (N:=some 42) (v:=undef) (a':=?_) #[true,true,true,true,true,true,true,true,true,true,true,true,true,true,true,true,true,true,false,false] rfl rfl (any_of HT_.out (by kernel_rfl)) (fun _ _ _ h => h) (Or.inr ⟨by rfl,rfl⟩) ?_ ?_
      rotate_left
      ·simp only [Act.put,List.setIfInBounds_toArray,List.set_cons_zero,List.set_cons_succ,i64_w,i32_w,IntKind.wrap_u8]
       rfl
      refine pure_ (i:=18) (N:=some 43) (v:=undef) (a':=?_) #[true,true,true,true,true,true,true,true,true,true,true,true,true,true,true,true,true,true,true,false] rfl rfl (any_of HT_.out (by kernel_rfl)) (fun _ _ _ h => h) (Or.inr ⟨by rfl,rfl⟩) ?_ ?_
      rotate_left
      ·simp only [Act.put,List.setIfInBounds_toArray,List.set_cons_zero,List.set_cons_succ,i64_w,i32_w,IntKind.wrap_u8]
       rfl
      refine zp_ 19 (some 44) ?_
      refine done_ (done_of HT_.out (by kernel_rfl)) ?_
      try go_wp2
      go_ret
      exact ⟨zE_,zG_⟩
     rw [if_pos c13] at H
     have c13b0 : (t233 == x3_2) = true:=beq_iff_eq.mpr c13
     have c13b1 : (t233 != x3_2) = false:=bne_eq_false_iff_eq.mpr c13
     clear c13
     obtain ⟨t235,A14,H⟩:=zJ_ H
     try dsimp only at H
     by_cases c15 : t235 = true
     rotate_left
     ·replace c15:=Bool.eq_false_iff.mpr c15
      subst c15
      rw [zF_] at H
      obtain rfl:=zi_ H
      have hcz20_0 : wr.cell? ⟨gb229,0,none⟩ = some (.slice A0_0 l0_0.length c0_0):=(zc_ BK229.out 0).trans rfl
      have hfz20_0:=zf_ BK229.out 0
      try go_wp2
      have n0_:=zm_ (zr_ BK229.out)
      have n1_:=zm_ (zd_ HB.out)
      clear BK229
      clear HB
      have BK229:=n0_
      have HB:=n1_
      clear n0_ n1_
      have p232 : 0 ≤ (x3_2 : Int):=zo_
      have q232 : x3_2 < (l0_0.length : Int):=zo_
      obtain ⟨ad232,A232_1,c232_1,A232_2,c232_2,e232,hx232_0,hx232_1,hx232_2,hl232_1,hi232_1,hl232_2,hi232_2⟩:=at_T49 HR0_0.out x3_2 p232 q232
      have hw232_2:=hx232_2
      have hw232_1:=hx232_1
      have hw232_0:=hx232_0
      cases e232
      replace hx232_0:=(HB.out.cell (zb_ w _ hx232_0)).trans hx232_0
      replace hx232_1:=(HB.out.cell (zb_ w _ hx232_1)).trans hx232_1
      replace hx232_2:=(HB.out.cell (zb_ w _ hx232_2)).trans hx232_2
      have HR232_1:=zm_ hi232_1
      have HC232_1:=zm_ hl232_1
      clear hi232_1 hl232_1
      have HR232_2:=zm_ hi232_2
      have HC232_2:=zm_ hl232_2
      clear hi232_2 hl232_2
      replace p232:=eq_true p232
      replace q232:=eq_true q232
      have p234 : 0 ≤ (x3_2 : Int):=zo_
      have q234 : x3_2 < (l0_0.length : Int):=zo_
      obtain ⟨ad234,A234_1,c234_1,A234_2,c234_2,e234,hx234_0,hx234_1,hx234_2,hl234_1,hi234_1,hl234_2,hi234_2⟩:=at_T49 HR0_0.out x3_2 p234 q234
      have hw234_2:=hx234_2
      have hw234_1:=hx234_1
      have hw234_0:=hx234_0
      obtain rfl : ad232 = ad234:=(by injection e234)
      replace hx234_0:=(HB.out.cell (zb_ w _ hx234_0)).trans hx234_0
      replace hx234_1:=(HB.out.cell (zb_ w _ hx234_1)).trans hx234_1
      replace hx234_2:=(HB.out.cell (zb_ w _ hx234_2)).trans hx234_2
      have HR234_1:=zm_ hi234_1
      have HC234_1:=zm_ hl234_1
      clear hi234_1 hl234_1
      have HR234_2:=zm_ hi234_2
      have HC234_2:=zm_ hl234_2
      clear hi234_2 hl234_2
      replace p234:=eq_true p234
      replace q234:=eq_true q234
      refine start_ (n:=20) (S:=fun w' => w'.cell? ⟨gb229,0,none⟩ = some (.slice (some ad232) l0_0.length c0_0) ∧ w'.cell? (ad232.add ((x3_2).toNat * 3)) = some (.string ((rd_T49 l0_0 x3_2).f0)) ∧ w'.cell? ⟨(ad232.add ((x3_2).toNat * 3)).block,(ad232.add ((x3_2).toNat * 3)).off + 1,none⟩ = some (.slice A232_1 ((rd_T49 l0_0 x3_2).f1).length c232_1) ∧ w'.cell? ⟨(ad232.add ((x3_2).toNat * 3)).block,(ad232.add ((x3_2).toNat * 3)).off + 2,none⟩ = some (.slice A232_2 ((rd_T49 l0_0 x3_2).f2).length c232_2) ∧ w'.cell? (ad232.add ((x3_2).toNat * 3)) = some (.string ((rd_T49 l0_0 x3_2).f0)) ∧ w'.cell? ⟨(ad232.add ((x3_2).toNat * 3)).block,(ad232.add ((x3_2).toNat * 3)).off + 1,none⟩ = some (.slice A234_1 ((rd_T49 l0_0 x3_2).f1).length c234_1) ∧ w'.cell? ⟨(ad232.add ((x3_2).toNat * 3)).block,(ad232.add ((x3_2).toNat * 3)).off + 2,none⟩ = some (.slice A234_2 ((rd_T49 l0_0 x3_2).f2).length c234_2)) (ds:=[]) #[false,false,false,false,false,false,false,false,false,false,false,false,false,false,false,false,false,false,false,false] (by kernel_rfl) rfl rfl ⟨(zc_ BK229.out 0).trans rfl,((HB.out.cell (zb_ w _ hw232_0)).trans hw232_0),((HB.out.cell (zb_ w _ hw232_1)).trans hw232_1),((HB.out.cell (zb_ w _ hw232_2)).trans hw232_2),((HB.out.cell (zb_ w _ hw234_0)).trans hw234_0),((HB.out.cell (zb_ w _ hw234_1)).trans hw234_1),((HB.out.cell (zb_ w _ hw234_2)).trans hw234_2)⟩ (fun hHeld => ?_);refine with_tabW spec_GrammarOk.tab6 spec_GrammarOk.bits6 (fun HT_ HW_ => ?_)
      generalize wr.drew = w21 at BK229 HB HR232_1 HR232_2 HR234_1 HR234_2 hx232_0 hx232_1 hx232_2 hx234_0 hx234_1 hx234_2 hHeld ⊢
      refine zp_ 1 (some 26) ?_
      refine zp_ 3 (some 28) ?_
      refine zp_ 8 (some 33) ?_
      refine zk2_ 0 (some 25) ?_
      refine zk2_ 2 (some 27) ?_
      refine zp_ 4 (some 29) ?_
      refine zp_ 5 (some 30) ?_
      refine zk2_ 6 (some 31) ?_
      refine one_ (i:=7) (N:=some 32) #[true,true,true,true,true,true,true,true,true,false,false,false,false,false,false,false,false,false,false,false] rfl rfl (one_of HT_.out (by kernel_rfl)) (by decide) (fun K hK => ?_)
      refine goes_ Tryz.func17 (by kernel_rfl) rfl #[.agg #[.slice (some ad232) l0_0.length c0_0],.string ((rd_T49 l0_0 x3_2).f0)] (by rfl) rfl rfl zq_ ?_
      with_reducible refine (spec_RuleAt.calls k2 _ _ l0_0 ((rd_T49 l0_0 x3_2).f0) t233 _ ?side1 ?side2 A12.out).mono ?_
      (case side1 => exact zP_)
      (case side2 => exact HC0_0.out)
      rintro e w22 ⟨rfl,hb⟩
      refine ⟨_,rfl,?_⟩
      have n0_:=zm_ (blk_below (g:=gb229) (o:=.cells #[.slice (some ad232) l0_0.length c0_0] 29 (0,0)) zK_ hb)
      have n1_:=zm_ (below_step zG_ hb)
      clear BK229
      clear HB
      have BK229:=n0_
      have HB:=n1_
      clear n0_ n1_
      (try clear hb)
      (try clear hb2)
      (try clear hk)
      (try clear hi)
      refine hK.out _ _ ⟨(zc_ BK229.out 0).trans rfl,((HB.out.cell (zb_ w _ hw232_0)).trans hw232_0),((HB.out.cell (zb_ w _ hw232_1)).trans hw232_1),((HB.out.cell (zb_ w _ hw232_2)).trans hw232_2),((HB.out.cell (zb_ w _ hw234_0)).trans hw234_0),((HB.out.cell (zb_ w _ hw234_1)).trans hw234_1),((HB.out.cell (zb_ w _ hw234_2)).trans hw234_2)⟩ (fun hHeld => ?_)
      clear hK K
      refine zm2_ ?_
      refine zp_ 9 (some 34) ?_
      refine zp_ 10 (some 35) ?_
      refine zp_ 12 (some 37) ?_
      refine zp_ 14 (some 39) ?_
      refine zk2_ 11 (some 36) ?_
      refine zk2_ 13 (some 38) ?_
      refine zp_ 15 (some 40) ?_
      refine zk2_ 16 (some 41) ?_
      refine one_ (i:=17) (N:=some 42) #[true,true,true,true,true,true,true,true,true,true,true,true,true,true,true,true,true,true,false,false] rfl rfl (one_of HT_.out (by kernel_rfl)) (by decide) (fun K hK => ?_)
      refine goes_ Tryz.func18 (by kernel_rfl) rfl #[.agg #[.slice (some ad232) l0_0.length c0_0],.agg #[.string ((rd_T49 l0_0 x3_2).f0),.slice A232_1 ((rd_T49 l0_0 x3_2).f1).length c232_1,.slice A232_2 ((rd_T49 l0_0 x3_2).f2).length c232_2]] (by rfl) rfl rfl zq_ ?_
      with_reducible refine (spec_l06Rule.calls k2 _ _ l0_0 ((rd_T49 l0_0 x3_2).f0) _ _ ((rd_T49 l0_0 x3_2).f1) _ _ ((rd_T49 l0_0 x3_2).f2) false _ ?side1 ?side2 ?side3 ?side4 ?side5 ?side6 A14.out).mono ?_
      (case side1 => exact zP_)
      (case side2 => exact HC0_0.out)
      (case side3 => exact zP_)
      (case side4 => exact HC232_1.out)
      (case side5 => exact zP_)
      (case side6 => exact HC232_2.out)
      rintro e w23 ⟨rfl,hb⟩
      refine ⟨_,rfl,?_⟩
      have n0_:=zm_ (blk_below (g:=gb229) (o:=.cells #[.slice (some ad232) l0_0.length c0_0] 29 (0,0)) zK_ hb)
      have n1_:=zm_ (below_step zG_ hb)
      clear BK229
      clear HB
      have BK229:=n0_
      have HB:=n1_
      clear n0_ n1_
      (try clear hb)
      (try clear hb2)
      (try clear hk)
      (try clear hi)
      refine hK.out _ _ ⟨(zc_ BK229.out 0).trans rfl,((HB.out.cell (zb_ w _ hw232_0)).trans hw232_0),((HB.out.cell (zb_ w _ hw232_1)).trans hw232_1),((HB.out.cell (zb_ w _ hw232_2)).trans hw232_2),((HB.out.cell (zb_ w _ hw234_0)).trans hw234_0),((HB.out.cell (zb_ w _ hw234_1)).trans hw234_1),((HB.out.cell (zb_ w _ hw234_2)).trans hw234_2)⟩ (fun hHeld => ?_)
      clear hK K
      refine zm2_ ?_
      refine zp_ 18 (some 43) ?_
      refine zp_ 19 (some 44) ?_
      refine done_ (done_of HT_.out (by kernel_rfl)) ?_
      try go_wp2
      go_ret
      exact ⟨zE_,zG_⟩
     subst c15
     rw [if_pos rfl] at H
     have H':=zm_ H
     clear H
     have hcz16_0 : wr.cell? ⟨gb229,0,none⟩ = some (.slice A0_0 l0_0.length c0_0):=(zc_ BK229.out 0).trans rfl
     have hfz16_0:=zf_ BK229.out 0
     try go_wp2
     have n0_:=zm_ (zr_ BK229.out)
     have n1_:=zm_ (zd_ HB.out)
     clear BK229
     clear HB
     have BK229:=n0_
     have HB:=n1_
     clear n0_ n1_
     have p232 : 0 ≤ (x3_2 : Int):=zo_
     have q232 : x3_2 < (l0_0.length : Int):=zo_
     obtain ⟨ad232,A232_1,c232_1,A232_2,c232_2,e232,hx232_0,hx232_1,hx232_2,hl232_1,hi232_1,hl232_2,hi232_2⟩:=at_T49 HR0_0.out x3_2 p232 q232
     have hw232_2:=hx232_2
     have hw232_1:=hx232_1
     have hw232_0:=hx232_0
     cases e232
     replace hx232_0:=(HB.out.cell (zb_ w _ hx232_0)).trans hx232_0
     replace hx232_1:=(HB.out.cell (zb_ w _ hx232_1)).trans hx232_1
     replace hx232_2:=(HB.out.cell (zb_ w _ hx232_2)).trans hx232_2
     have HR232_1:=zm_ hi232_1
     have HC232_1:=zm_ hl232_1
     clear hi232_1 hl232_1
     have HR232_2:=zm_ hi232_2
     have HC232_2:=zm_ hl232_2
     clear hi232_2 hl232_2
     replace p232:=eq_true p232
     replace q232:=eq_true q232
     have p234 : 0 ≤ (x3_2 : Int):=zo_
     have q234 : x3_2 < (l0_0.length : Int):=zo_
     obtain ⟨ad234,A234_1,c234_1,A234_2,c234_2,e234,hx234_0,hx234_1,hx234_2,hl234_1,hi234_1,hl234_2,hi234_2⟩:=at_T49 HR0_0.out x3_2 p234 q234
     have hw234_2:=hx234_2
     have hw234_1:=hx234_1
     have hw234_0:=hx234_0
     obtain rfl : ad232 = ad234:=(by injection e234)
     replace hx234_0:=(HB.out.cell (zb_ w _ hx234_0)).trans hx234_0
     replace hx234_1:=(HB.out.cell (zb_ w _ hx234_1)).trans hx234_1
     replace hx234_2:=(HB.out.cell (zb_ w _ hx234_2)).trans hx234_2
     have HR234_1:=zm_ hi234_1
     have HC234_1:=zm_ hl234_1
     clear hi234_1 hl234_1
     have HR234_2:=zm_ hi234_2
     have HC234_2:=zm_ hl234_2
     clear hi234_2 hl234_2
     replace p234:=eq_true p234
     replace q234:=eq_true q234
     refine start_ (n:=20) (S:=fun w' => w'.cell? ⟨gb229,0,none⟩ = some (.slice (some ad232) l0_0.length c0_0) ∧ w'.cell? (ad232.add ((x3_2).toNat * 3)) = some (.string ((rd_T49 l0_0 x3_2).f0)) ∧ w'.cell? ⟨(ad232.add ((x3_2).toNat * 3)).block,(ad232.add ((x3_2).toNat * 3)).off + 1,none⟩ = some (.slice A232_1 ((rd_T49 l0_0 x3_2).f1).length c232_1) ∧ w'.cell? ⟨(ad232.add ((x3_2).toNat * 3)).block,(ad232.add ((x3_2).toNat * 3)).off + 2,none⟩ = some (.slice A232_2 ((rd_T49 l0_0 x3_2).f2).length c232_2) ∧ w'.cell? (ad232.add ((x3_2).toNat * 3)) = some (.string ((rd_T49 l0_0 x3_2).f0)) ∧ w'.cell? ⟨(ad232.add ((x3_2).toNat * 3)).block,(ad232.add ((x3_2).toNat * 3)).off + 1,none⟩ = some (.slice A234_1 ((rd_T49 l0_0 x3_2).f1).length c234_1) ∧ w'.cell? ⟨(ad232.add ((x3_2).toNat * 3)).block,(ad232.add ((x3_2).toNat * 3)).off + 2,none⟩ = some (.slice A234_2 ((rd_T49 l0_0 x3_2).f2).length c234_2)) (ds:=[]) #[false,false,false,false,false,false,false,false,false,false,false,false,false,false,false,false,false,false,false,false] (by kernel_rfl) rfl rfl ⟨(zc_ BK229.out 0).trans rfl,((HB.out.cell (zb_ w _ hw232_0)).trans hw232_0),((HB.out.cell (zb_ w _ hw232_1)).trans hw232_1),((HB.out.cell (zb_ w _ hw232_2)).trans hw232_2),((HB.out.cell (zb_ w _ hw234_0)).trans hw234_0),((HB.out.cell (zb_ w _ hw234_1)).trans hw234_1),((HB.out.cell (zb_ w _ hw234_2)).trans hw234_2)⟩ (fun hHeld => ?_);refine with_tabW spec_GrammarOk.tab6 spec_GrammarOk.bits6 (fun HT_ HW_ => ?_)
     generalize wr.drew = w17 at BK229 HB HR232_1 HR232_2 HR234_1 HR234_2 hx232_0 hx232_1 hx232_2 hx234_0 hx234_1 hx234_2 hHeld ⊢
     refine zp_ 1 (some 26) ?_
     refine zp_ 3 (some 28) ?_
     refine zp_ 8 (some 33) ?_
     refine zk2_ 0 (some 25) ?_
     refine zk2_ 2 (some 27) ?_
     refine zp_ 4 (some 29) ?_
     refine zp_ 5 (some 30) ?_
     refine zk2_ 6 (some 31) ?_
     refine one_ (i:=7) (N:=some 32) #[true,true,true,true,true,true,true,true,true,false,false,false,false,false,false,false,false,false,false,false] rfl rfl (one_of HT_.out (by kernel_rfl)) (by decide) (fun K hK => ?_)
     refine goes_ Tryz.func17 (by kernel_rfl) rfl #[.agg #[.slice (some ad232) l0_0.length c0_0],.string ((rd_T49 l0_0 x3_2).f0)] (by rfl) rfl rfl zq_ ?_
     with_reducible refine (spec_RuleAt.calls k2 _ _ l0_0 ((rd_T49 l0_0 x3_2).f0) t233 _ ?side1 ?side2 A12.out).mono ?_
     (case side1 => exact zP_)
     (case side2 => exact HC0_0.out)
     rintro e w18 ⟨rfl,hb⟩
     refine ⟨_,rfl,?_⟩
     have n0_:=zm_ (blk_below (g:=gb229) (o:=.cells #[.slice (some ad232) l0_0.length c0_0] 29 (0,0)) zK_ hb)
     have n1_:=zm_ (below_step zG_ hb)
     clear BK229
     clear HB
     have BK229:=n0_
     have HB:=n1_
     clear n0_ n1_
     (try clear hb)
     (try clear hb2)
     (try clear hk)
     (try clear hi)
     refine hK.out _ _ ⟨(zc_ BK229.out 0).trans rfl,((HB.out.cell (zb_ w _ hw232_0)).trans hw232_0),((HB.out.cell (zb_ w _ hw232_1)).trans hw232_1),((HB.out.cell (zb_ w _ hw232_2)).trans hw232_2),((HB.out.cell (zb_ w _ hw234_0)).trans hw234_0),((HB.out.cell (zb_ w _ hw234_1)).trans hw234_1),((HB.out.cell (zb_ w _ hw234_2)).trans hw234_2)⟩ (fun hHeld => ?_)
     clear hK K
     refine zm2_ ?_
     refine zp_ 9 (some 34) ?_
     refine zp_ 10 (some 35) ?_
     refine zp_ 12 (some 37) ?_
     refine zp_ 14 (some 39) ?_
     refine zk2_ 11 (some 36) ?_
     refine zk2_ 13 (some 38) ?_
     refine zp_ 15 (some 40) ?_
     refine zk2_ 16 (some 41) ?_
     refine one_ (i:=17) (N:=some 42) #[true,true,true,true,true,true,true,true,true,true,true,true,true,true,true,true,true,true,false,false] rfl rfl (one_of HT_.out (by kernel_rfl)) (by decide) (fun K hK => ?_)
     refine goes_ Tryz.func18 (by kernel_rfl) rfl #[.agg #[.slice (some ad232) l0_0.length c0_0],.agg #[.string ((rd_T49 l0_0 x3_2).f0),.slice A232_1 ((rd_T49 l0_0 x3_2).f1).length c232_1,.slice A232_2 ((rd_T49 l0_0 x3_2).f2).length c232_2]] (by rfl) rfl rfl zq_ ?_
     with_reducible refine (spec_l06Rule.calls k2 _ _ l0_0 ((rd_T49 l0_0 x3_2).f0) _ _ ((rd_T49 l0_0 x3_2).f1) _ _ ((rd_T49 l0_0 x3_2).f2) true _ ?side1 ?side2 ?side3 ?side4 ?side5 ?side6 A14.out).mono ?_
     (case side1 => exact zP_)
     (case side2 => exact HC0_0.out)
     (case side3 => exact zP_)
     (case side4 => exact HC232_1.out)
     (case side5 => exact zP_)
     (case side6 => exact HC232_2.out)
     rintro e w19 ⟨rfl,hb⟩
     refine ⟨_,rfl,?_⟩
     have n0_:=zm_ (blk_below (g:=gb229) (o:=.cells #[.slice (some ad232) l0_0.length c0_0] 29 (0,0)) zK_ hb)
     have n1_:=zm_ (below_step zG_ hb)
     clear BK229
     clear HB
     have BK229:=n0_
     have HB:=n1_
     clear n0_ n1_
     (try clear hb)
     (try clear hb2)
     (try clear hk)
     (try clear hi)
     refine hK.out _ _ ⟨(zc_ BK229.out 0).trans rfl,((HB.out.cell (zb_ w _ hw232_0)).trans hw232_0),((HB.out.cell (zb_ w _ hw232_1)).trans hw232_1),((HB.out.cell (zb_ w _ hw232_2)).trans hw232_2),((HB.out.cell (zb_ w _ hw234_0)).trans hw234_0),((HB.out.cell (zb_ w _ hw234_1)).trans hw234_1),((HB.out.cell (zb_ w _ hw234_2)).trans hw234_2)⟩ (fun hHeld => ?_)
     clear hK K
     refine zm2_ ?_
     refine zp_ 18 (some 43) ?_
     refine zp_ 19 (some 44) ?_
     refine done_ (done_of HT_.out (by kernel_rfl)) ?_
     try go_wp2
     go_roundg k2
     case measure => have:=HJ1.out;have:=HK2.out;omega
     case rel => exact ⟨(wrap64 (x3_2 + 1)),zV_,H',⟨by have:=HJ1.out;have:=HK2.out;omega⟩,⟨zK_⟩,⟨zG_⟩⟩
end Go.Proofs.YtkbgmojomgelbaaGreat.MFnExactGrammarOk
