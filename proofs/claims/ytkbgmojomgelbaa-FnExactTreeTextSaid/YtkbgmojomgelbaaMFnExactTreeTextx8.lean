import Derived.Test.YtkbgmojomgelbaaMFnExactTreeTextx0
import Derived.Test.YtkbgmojomgelbaaMFnExactTreeTextx7
namespace Go.Proofs.Ytkbgmojomgelbaa.MFnExactTreeText
open Go.RowKit Go.Proofs.YtkbgmojomgelbaaW.PrintWords Go.Proofs.YtkbgmojomgelbaaW.PrintLast Go.Proofs.YtkbgmojomgelbaaW.PrintMore
attribute [local go_sem] max2_int min2_int max_two min_two max_three min_three max_four min_four
set_option linter.unusedVariables false
set_option linter.unusedSimpArgs false

def laws_eqExprS.l0 : Nat → List (S122) → List (S122) → Int → Option (Bool)
 |0,_,_,_ => none
 |k + 1,x0,x1,x5 => if x5 < (x0.length : Int) then (if 0 ≤ x5 then (if x5 < (x1.length : Int) then ((laws_eqExpr.f k ((rd_T122 x0 x5).f0) ((rd_T122 x1 x5).f0)).bind fun t327 => (if t327 = true then (laws_eqExprS.l0 k x0 x1 (wrap64 (x5 + 1))) else (some false))) else (none)) else (none)) else (some true)
def laws_eqExprS.f (k : Nat) (l0 : List (S122)) (l1 : List (S122)) : Option (Bool):=if (l0.length : Int) = (l1.length : Int) then (laws_eqExprS.l0 k l0 l1 0) else (some false)
theorem laws_eqExprS.mono_l : ∀ k,(∀ y0 y1 y2,LeO (laws_eqExprS.l0 k y0 y1 y2) (laws_eqExprS.l0 (k + 1) y0 y1 y2))
 |0 => fun _ _ _ r h => by simp [laws_eqExprS.l0] at h
 |k + 1 => by
  have ih0:=laws_eqExprS.mono_l k
  ·intro y0 y1 y2
   unfold laws_eqExprS.l0
   repeat' first
   |(with_reducible exact ih0 _ _ _)
   |(with_reducible exact laws_eqExpr.mono _ _ _)
   |(with_reducible exact LeO.refl _)
   |(with_reducible exact LeO.none _)
   |(with_reducible refine LeO.ite ?_ ?_)
   |(with_reducible refine LeO.bind ?_ (fun _ => ?_))
theorem laws_eqExprS.mono : ∀ a0 a1 k,LeO (laws_eqExprS.f k a0 a1) (laws_eqExprS.f (k + 1) a0 a1):=by
 intro a0 a1 k
 have ih0:=laws_eqExprS.mono_l k
 unfold laws_eqExprS.f
 repeat' first
   |(with_reducible exact ih0 _ _ _)
   |(with_reducible exact laws_eqExpr.mono _ _ _)
   |(with_reducible exact LeO.refl _)
   |(with_reducible exact LeO.none _)
   |(with_reducible refine LeO.ite ?_ ?_)
   |(with_reducible refine LeO.bind ?_ (fun _ => ?_))
def laws_eqExprS.T6 : Bool × List (List Nat × List Nat):=(true,[([],[]),([],[]),([0,1],[0,1]),([2],[2]),([],[]),([],[]),([4,5],[4,5]),([6],[6]),([3,7],[3,7]),([8],[8])])
def laws_eqExprS.B6 : List Nat:=[0,0,3,7,0,0,48,112,255,511]
theorem laws_eqExprS.tab6 : rtab .any (opsOf Try.f56 6) = laws_eqExprS.T6:=by kernel_rfl
theorem laws_eqExprS.bits6 : waitsOk laws_eqExprS.T6.2 laws_eqExprS.B6 = true:=by kernel_rfl
set_option maxHeartbeats 8000000 in
set_option maxRecDepth 100000 in
theorem laws_eqExprS.calls (k : Nat) (A0 : Option Addr) (c0 : Nat) (l0 : List (S122)) (A1 : Option Addr) (c1 : Nat) (l1 : List (S122)) (r : Bool) (w : World) (hr0 : Kd.C k122 w A0 l0.length l0) (hc0 : l0.length ≤ c0) (hr1 : Kd.C k122 w A1 l1.length l1) (hc1 : l1.length ≤ c1) (h : laws_eqExprS.f k l0 l1 = some r) :
  Calls Try.prog 56 #[.slice A0 l0.length c0,.slice A1 l1.length c1] w fun e w' => e = .returned (.bool r) ∧ Below w.heap.size w w':=by
 have hu122:=Try.underlying122
 have HR0:=zm_ hr0
 have HC0:=zm_ hc0
 clear hr0 hc0
 have HR1:=zm_ hr1
 have HC1:=zm_ hc1
 clear hr1 hc1
 have HB:=zm_ (Below.refl w.heap.size w)
 have H : (if (l0.length : Int) = (l1.length : Int) then (laws_eqExprS.l0 k l0 l1 0) else (some false)) = some r:=h
 clear h
 by_cases c3 : (l0.length : Int) = (l1.length : Int)
 ·rw [if_pos c3] at H
  have c3b0 : ((l0.length : Int) == (l1.length : Int)) = true:=beq_iff_eq.mpr c3
  have c3b1 : ((l0.length : Int) != (l1.length : Int)) = false:=bne_eq_false_iff_eq.mpr c3
  have c3b2 : (l0.length == l1.length) = true:=by first|simpa using c3|(simp at c3 ⊢;omega)
  clear c3
  have H':=zm_ H
  clear H
  go_enter Try.func56,Try.ntmps56
  go_wp2
  go_loopg [5] k (fun kq v5 w' => ∃ (x5_1 : Int),v5 = .int .i64 x5_1 ∧ Aside0 (laws_eqExprS.l0 kq l0 l1 x5_1 = some r) ∧ Aside0 (kq ≤ k) ∧ Aside0 (Below w.heap.size w w'))
  case atStart => exact ⟨(0),zV_,H',⟨Nat.le_refl _⟩,⟨by repeat (first|(with_reducible first|exact HB.out|apply za_|apply zn_|apply zd_)|exact HB.out)⟩⟩
  case round =>
   clear H'
   try clear c1
   try clear p2
   try clear c3
   try clear c3b0
   try clear c3b1
   try clear c3b2
   obtain ⟨x5_1,rfl,HA,HK1,HB⟩:=hrel
   cases gk with
   |zero => exact absurd HA.out (by simp [laws_eqExprS.l0])
   |succ k1 =>
    have H:=HA.out
    clear HA
    simp only [laws_eqExprS.l0] at H
    by_cases c4 : x5_1 < (l0.length : Int)
    ·rw [if_pos c4] at H
     have c4b0 : decide (x5_1 < (l0.length : Int)) = true:=decide_eq_true c4
     clear c4
     by_cases c5 : 0 ≤ x5_1
     ·rw [if_pos c5] at H
      have c5b0 : decide (0 ≤ x5_1) = true:=decide_eq_true c5
      clear c5
      by_cases c6 : x5_1 < (l1.length : Int)
      ·rw [if_pos c6] at H
       have c6b0 : decide (x5_1 < (l1.length : Int)) = true:=decide_eq_true c6
       clear c6
       replace H:=Option.bind_eq_some_iff.mp H
       obtain ⟨t327,A70,H⟩:=H
       replace H : (if t327 = true then (laws_eqExprS.l0 k1 l0 l1 (wrap64 (x5_1 + 1))) else (some false)) = some r:=H
       have A7:=zm_ A70
       clear A70
       by_cases c8 : t327 = true
       ·subst c8
        have H1 : (laws_eqExprS.l0 k1 l0 l1 (wrap64 (x5_1 + 1))) = some r:=by rw [if_pos rfl] at H;exact H
        clear H
        have H:=H1
        clear H1
        have H':=zm_ H
        clear H
        try go_wp2
        have n0_:=zm_ (zd_ HB.out)
        clear HB
        have HB:=n0_
        clear n0_
        have p325 : 0 ≤ (x5_1 : Int):=zo_
        have q325 : x5_1 < (l0.length : Int):=zo_
        obtain ⟨ad325,A325_0,c325_0,e325,hx325_0,hl325_0,hi325_0⟩:=at_T122 HR0.out x5_1 p325 q325
        have hw325_0:=hx325_0
        cases e325
        replace hx325_0:=(HB.out.cell (zb_ w _ hx325_0)).trans hx325_0
        have HR325_0:=zm_ hi325_0
        have HC325_0:=zm_ hl325_0
        clear hi325_0 hl325_0
        replace p325:=eq_true p325
        replace q325:=eq_true q325
        have p326 : 0 ≤ (x5_1 : Int):=zo_
        have q326 : x5_1 < (l1.length : Int):=zo_
        obtain ⟨ad326,A326_0,c326_0,e326,hx326_0,hl326_0,hi326_0⟩:=at_T122 HR1.out x5_1 p326 q326
        have hw326_0:=hx326_0
        cases e326
        replace hx326_0:=(HB.out.cell (zb_ w _ hx326_0)).trans hx326_0
        have HR326_0:=zm_ hi326_0
        have HC326_0:=zm_ hl326_0
        clear hi326_0 hl326_0
        replace p326:=eq_true p326
        replace q326:=eq_true q326
        refine start_ (n:=10) (S:=fun w' => w'.cell? (ad325.add (x5_1).toNat) = some (.slice A325_0 ((rd_T122 l0 x5_1).f0).length c325_0) ∧ w'.cell? (ad326.add (x5_1).toNat) = some (.slice A326_0 ((rd_T122 l1 x5_1).f0).length c326_0)) (ds:=[]) #[false,false,false,false,false,false,false,false,false,false] (by kernel_rfl) rfl rfl ⟨((HB.out.cell (zb_ w _ hw325_0)).trans hw325_0),((HB.out.cell (zb_ w _ hw326_0)).trans hw326_0)⟩ (fun hHeld => ?_);refine with_tabW laws_eqExprS.tab6 laws_eqExprS.bits6 (fun HT_ HW_ => ?_)
        generalize wr.drew = w9 at HB HR325_0 HR326_0 hx325_0 hx326_0 hHeld ⊢
        refine pure_ (i:=0) (N:=some 17) (v:=?_) (a':=?_) #[true,false,false,false,false,false,false,false,false,false] rfl rfl (any_of HT_.out (by kernel_rfl)) (fun _ _ _ h => h) (Or.inl ⟨by rfl,?_⟩) ?_ ?_
        rotate_left
        ·intro w'
         go_simp
         with_reducible rfl
        rotate_left
        ·simp only [Act.put,List.setIfInBounds_toArray,List.set_cons_zero,List.set_cons_succ,i64_w,i32_w,IntKind.wrap_u8]
         rfl
        refine pure_ (i:=1) (N:=some 18) (v:=?_) (a':=?_) #[true,true,false,false,false,false,false,false,false,false] rfl rfl (any_of HT_.out (by kernel_rfl)) (fun _ _ _ h => h) (Or.inl ⟨by rfl,?_⟩) ?_ ?_
        rotate_left
        ·intro w'
         go_simp
         with_reducible rfl
        rotate_left
        ·simp only [Act.put,List.setIfInBounds_toArray,List.set_cons_zero,List.set_cons_succ,i64_w,i32_w,IntKind.wrap_u8]
         rfl
        refine pure_ (i:=2) (N:=some 19) (v:=?_) (a':=?_) #[true,true,true,false,false,false,false,false,false,false] rfl rfl (any_of HT_.out (by kernel_rfl)) (fun _ _ _ h => h) (Or.inl ⟨by rfl,?_⟩) ?_ ?_
        rotate_left
        ·intro w'
         go_simp
         with_reducible rfl
        rotate_left
        ·simp only [Act.put,List.setIfInBounds_toArray,List.set_cons_zero,List.set_cons_succ,i64_w,i32_w,IntKind.wrap_u8]
         rfl
        refine pure_ (i:=4) (N:=some 21) (v:=?_) (a':=?_) #[true,true,true,false,true,false,false,false,false,false] rfl rfl (any_of HT_.out (by kernel_rfl)) (fun _ _ _ h => h) (Or.inl ⟨by rfl,?_⟩) ?_ ?_
        rotate_left
        ·intro w'
         go_simp
         with_reducible rfl
        rotate_left
        ·simp only [Act.put,List.setIfInBounds_toArray,List.set_cons_zero,List.set_cons_succ,i64_w,i32_w,IntKind.wrap_u8]
         rfl
        refine pure_ (i:=5) (N:=some 22) (v:=?_) (a':=?_) #[true,true,true,false,true,true,false,false,false,false] rfl rfl (any_of HT_.out (by kernel_rfl)) (fun _ _ _ h => h) (Or.inl ⟨by rfl,?_⟩) ?_ ?_
        rotate_left
        ·intro w'
         go_simp
         with_reducible rfl
        rotate_left
        ·simp only [Act.put,List.setIfInBounds_toArray,List.set_cons_zero,List.set_cons_succ,i64_w,i32_w,IntKind.wrap_u8]
         rfl
        refine pure_ (i:=6) (N:=some 23) (v:=?_) (a':=?_) #[true,true,true,false,true,true,true,false,false,false] rfl rfl (any_of HT_.out (by kernel_rfl)) (fun _ _ _ h => h) (Or.inl ⟨by rfl,?_⟩) ?_ ?_
        rotate_left
        ·intro w'
         go_simp
         with_reducible rfl
        rotate_left
        ·simp only [Act.put,List.setIfInBounds_toArray,List.set_cons_zero,List.set_cons_succ,i64_w,i32_w,IntKind.wrap_u8]
         rfl
        refine take_ (i:=3) (N:=some 20) (v:=?_) (a':=?_) #[true,true,true,true,true,true,true,false,false,false] rfl rfl (take_ofW HT_.out HW_.out (by kernel_rfl)) (fun _ _ _ h => h) (Or.inl ⟨by rfl,?_⟩) hHeld ?_ ?_
        rotate_left
        ·rintro w' ⟨s0,s1⟩
         go_simp
         with_reducible rfl
        rotate_left
        ·simp only [Act.put,List.setIfInBounds_toArray,List.set_cons_zero,List.set_cons_succ,i64_w,i32_w,IntKind.wrap_u8]
         rfl
        refine take_ (i:=7) (N:=some 24) (v:=?_) (a':=?_) #[true,true,true,true,true,true,true,true,false,false] rfl rfl (take_ofW HT_.out HW_.out (by kernel_rfl)) (fun _ _ _ h => h) (Or.inl ⟨by rfl,?_⟩) hHeld ?_ ?_
        rotate_left
        ·rintro w' ⟨s0,s1⟩
         go_simp
         with_reducible rfl
        rotate_left
        ·simp only [Act.put,List.setIfInBounds_toArray,List.set_cons_zero,List.set_cons_succ,i64_w,i32_w,IntKind.wrap_u8]
         rfl
        refine one_ (i:=8) (N:=some 25) #[true,true,true,true,true,true,true,true,true,false] rfl rfl (one_of HT_.out (by kernel_rfl)) (by decide) (fun K hK => ?_)
        refine goes_ Try.func59 (by kernel_rfl) rfl #[.agg #[.slice A325_0 ((rd_T122 l0 x5_1).f0).length c325_0],.agg #[.slice A326_0 ((rd_T122 l1 x5_1).f0).length c326_0]] (by rfl) rfl rfl zq_ ?_
        with_reducible refine (laws_eqExpr.calls k1 _ _ ((rd_T122 l0 x5_1).f0) _ _ ((rd_T122 l1 x5_1).f0) true _ ?side1 ?side2 ?side3 ?side4 A7.out).mono ?_
        (case side1 => repeat (first|exact (Kd.C_below HR325_0.out HB.out)|(with_reducible refine Kd.C_alloc ?_ _)|(with_reducible refine Kd.C_drewN ?_ _)|(with_reducible refine Kd.C_drew ?_)))
        (case side2 => exact HC325_0.out)
        (case side3 => repeat (first|exact (Kd.C_below HR326_0.out HB.out)|(with_reducible refine Kd.C_alloc ?_ _)|(with_reducible refine Kd.C_drewN ?_ _)|(with_reducible refine Kd.C_drew ?_)))
        (case side4 => exact HC326_0.out)
        rintro e w10 ⟨rfl,hb⟩
        refine ⟨_,rfl,?_⟩
        have n0_:=zm_ (below_step zB_ hb)
        clear HB
        have HB:=n0_
        clear n0_
        (try clear hb)
        (try clear hb2)
        (try clear hk)
        (try clear hi)
        refine hK.out _ _ ⟨((HB.out.cell (zb_ w _ hw325_0)).trans hw325_0),((HB.out.cell (zb_ w _ hw326_0)).trans hw326_0)⟩ (fun hHeld => ?_)
        clear hK K
        refine norm_ (a':=?_) ?_ ?_
        rotate_left
        ·show Act.put _ (some 25) _ = _
         simp only [Act.put,List.setIfInBounds_toArray,List.set_cons_zero,List.set_cons_succ,i64_w,i32_w,IntKind.wrap_u8]
         rfl
        refine pure_ (i:=9) (N:=some 26) (v:=?_) (a':=?_) #[true,true,true,true,true,true,true,true,true,true] rfl rfl (any_of HT_.out (by kernel_rfl)) (fun _ _ _ h => h) (Or.inl ⟨by rfl,?_⟩) ?_ ?_
        rotate_left
        ·intro w'
         go_simp
         with_reducible rfl
        rotate_left
        ·simp only [Act.put,List.setIfInBounds_toArray,List.set_cons_zero,List.set_cons_succ,i64_w,i32_w,IntKind.wrap_u8]
         rfl
        refine done_ (done_of HT_.out (by kernel_rfl)) ?_
        try go_wp2
        go_roundg k1
        case measure => have:=HK1.out;omega
        case rel => exact ⟨(wrap64 (x5_1 + 1)),zV_,H',⟨by have:=HK1.out;omega⟩,⟨by repeat (first|(with_reducible first|exact HB.out|apply za_|apply zn_|apply zd_)|exact HB.out)⟩⟩
       ·replace c8:=Bool.eq_false_iff.mpr c8
        subst c8
        have H1 : (some false) = some r:=by rw [if_neg (show ¬ (false = true) by decide)] at H;exact H
        clear H
        have H:=H1
        clear H1
        obtain rfl:=Option.some.inj H
        try go_wp2
        have n0_:=zm_ (zd_ HB.out)
        clear HB
        have HB:=n0_
        clear n0_
        have p325 : 0 ≤ (x5_1 : Int):=zo_
        have q325 : x5_1 < (l0.length : Int):=zo_
        obtain ⟨ad325,A325_0,c325_0,e325,hx325_0,hl325_0,hi325_0⟩:=at_T122 HR0.out x5_1 p325 q325
        have hw325_0:=hx325_0
        cases e325
        replace hx325_0:=(HB.out.cell (zb_ w _ hx325_0)).trans hx325_0
        have HR325_0:=zm_ hi325_0
        have HC325_0:=zm_ hl325_0
        clear hi325_0 hl325_0
        replace p325:=eq_true p325
        replace q325:=eq_true q325
        have p326 : 0 ≤ (x5_1 : Int):=zo_
        have q326 : x5_1 < (l1.length : Int):=zo_
        obtain ⟨ad326,A326_0,c326_0,e326,hx326_0,hl326_0,hi326_0⟩:=at_T122 HR1.out x5_1 p326 q326
        have hw326_0:=hx326_0
        cases e326
        replace hx326_0:=(HB.out.cell (zb_ w _ hx326_0)).trans hx326_0
        have HR326_0:=zm_ hi326_0
        have HC326_0:=zm_ hl326_0
        clear hi326_0 hl326_0
        replace p326:=eq_true p326
        replace q326:=eq_true q326
        refine start_ (n:=10) (S:=fun w' => w'.cell? (ad325.add (x5_1).toNat) = some (.slice A325_0 ((rd_T122 l0 x5_1).f0).length c325_0) ∧ w'.cell? (ad326.add (x5_1).toNat) = some (.slice A326_0 ((rd_T122 l1 x5_1).f0).length c326_0)) (ds:=[]) #[false,false,false,false,false,false,false,false,false,false] (by kernel_rfl) rfl rfl ⟨((HB.out.cell (zb_ w _ hw325_0)).trans hw325_0),((HB.out.cell (zb_ w _ hw326_0)).trans hw326_0)⟩ (fun hHeld => ?_);refine with_tabW laws_eqExprS.tab6 laws_eqExprS.bits6 (fun HT_ HW_ => ?_)
        generalize wr.drew = w11 at HB HR325_0 HR326_0 hx325_0 hx326_0 hHeld ⊢
        refine pure_ (i:=0) (N:=some 17) (v:=?_) (a':=?_) #[true,false,false,false,false,false,false,false,false,false] rfl rfl (any_of HT_.out (by kernel_rfl)) (fun _ _ _ h => h) (Or.inl ⟨by rfl,?_⟩) ?_ ?_
        rotate_left
        ·intro w'
         go_simp
         with_reducible rfl
        rotate_left
        ·simp only [Act.put,List.setIfInBounds_toArray,List.set_cons_zero,List.set_cons_succ,i64_w,i32_w,IntKind.wrap_u8]
         rfl
        refine pure_ (i:=1) (N:=some 18) (v:=?_) (a':=?_) #[true,true,false,false,false,false,false,false,false,false] rfl rfl (any_of HT_.out (by kernel_rfl)) (fun _ _ _ h => h) (Or.inl ⟨by rfl,?_⟩) ?_ ?_
        rotate_left
        ·intro w'
         go_simp
         with_reducible rfl
        rotate_left
        ·simp only [Act.put,List.setIfInBounds_toArray,List.set_cons_zero,List.set_cons_succ,i64_w,i32_w,IntKind.wrap_u8]
         rfl
        refine pure_ (i:=2) (N:=some 19) (v:=?_) (a':=?_) #[true,true,true,false,false,false,false,false,false,false] rfl rfl (any_of HT_.out (by kernel_rfl)) (fun _ _ _ h => h) (Or.inl ⟨by rfl,?_⟩) ?_ ?_
        rotate_left
        ·intro w'
         go_simp
         with_reducible rfl
        rotate_left
        ·simp only [Act.put,List.setIfInBounds_toArray,List.set_cons_zero,List.set_cons_succ,i64_w,i32_w,IntKind.wrap_u8]
         rfl
        refine pure_ (i:=4) (N:=some 21) (v:=?_) (a':=?_) #[true,true,true,false,true,false,false,false,false,false] rfl rfl (any_of HT_.out (by kernel_rfl)) (fun _ _ _ h => h) (Or.inl ⟨by rfl,?_⟩) ?_ ?_
        rotate_left
        ·intro w'
         go_simp
         with_reducible rfl
        rotate_left
        ·simp only [Act.put,List.setIfInBounds_toArray,List.set_cons_zero,List.set_cons_succ,i64_w,i32_w,IntKind.wrap_u8]
         rfl
        refine pure_ (i:=5) (N:=some 22) (v:=?_) (a':=?_) #[true,true,true,false,true,true,false,false,false,false] rfl rfl (any_of HT_.out (by kernel_rfl)) (fun _ _ _ h => h) (Or.inl ⟨by rfl,?_⟩) ?_ ?_
        rotate_left
        ·intro w'
         go_simp
         with_reducible rfl
        rotate_left
        ·simp only [Act.put,List.setIfInBounds_toArray,List.set_cons_zero,List.set_cons_succ,i64_w,i32_w,IntKind.wrap_u8]
         rfl
        refine pure_ (i:=6) (N:=some 23) (v:=?_) (a':=?_) #[true,true,true,false,true,true,true,false,false,false] rfl rfl (any_of HT_.out (by kernel_rfl)) (fun _ _ _ h => h) (Or.inl ⟨by rfl,?_⟩) ?_ ?_
        rotate_left
        ·intro w'
         go_simp
         with_reducible rfl
        rotate_left
        ·simp only [Act.put,List.setIfInBounds_toArray,List.set_cons_zero,List.set_cons_succ,i64_w,i32_w,IntKind.wrap_u8]
         rfl
        refine take_ (i:=3) (N:=some 20) (v:=?_) (a':=?_) #[true,true,true,true,true,true,true,false,false,false] rfl rfl (take_ofW HT_.out HW_.out (by kernel_rfl)) (fun _ _ _ h => h) (Or.inl ⟨by rfl,?_⟩) hHeld ?_ ?_
        rotate_left
        ·rintro w' ⟨s0,s1⟩
         go_simp
         with_reducible rfl
        rotate_left
        ·simp only [Act.put,List.setIfInBounds_toArray,List.set_cons_zero,List.set_cons_succ,i64_w,i32_w,IntKind.wrap_u8]
         rfl
        refine take_ (i:=7) (N:=some 24) (v:=?_) (a':=?_) #[true,true,true,true,true,true,true,true,false,false] rfl rfl (take_ofW HT_.out HW_.out (by kernel_rfl)) (fun _ _ _ h => h) (Or.inl ⟨by rfl,?_⟩) hHeld ?_ ?_
        rotate_left
        ·rintro w' ⟨s0,s1⟩
         go_simp
         with_reducible rfl
        rotate_left
        ·simp only [Act.put,List.setIfInBounds_toArray,List.set_cons_zero,List.set_cons_succ,i64_w,i32_w,IntKind.wrap_u8]
         rfl
        refine one_ (i:=8) (N:=some 25) #[true,true,true,true,true,true,true,true,true,false] rfl rfl (one_of HT_.out (by kernel_rfl)) (by decide) (fun K hK => ?_)
        refine goes_ Try.func59 (by kernel_rfl) rfl #[.agg #[.slice A325_0 ((rd_T122 l0 x5_1).f0).length c325_0],.agg #[.slice A326_0 ((rd_T122 l1 x5_1).f0).length c326_0]] (by rfl) rfl rfl zq_ ?_
        with_reducible refine (laws_eqExpr.calls k1 _ _ ((rd_T122 l0 x5_1).f0) _ _ ((rd_T122 l1 x5_1).f0) false _ ?side1 ?side2 ?side3 ?side4 A7.out).mono ?_
        (case side1 => repeat (first|exact (Kd.C_below HR325_0.out HB.out)|(with_reducible refine Kd.C_alloc ?_ _)|(with_reducible refine Kd.C_drewN ?_ _)|(with_reducible refine Kd.C_drew ?_)))
        (case side2 => exact HC325_0.out)
        (case side3 => repeat (first|exact (Kd.C_below HR326_0.out HB.out)|(with_reducible refine Kd.C_alloc ?_ _)|(with_reducible refine Kd.C_drewN ?_ _)|(with_reducible refine Kd.C_drew ?_)))
        (case side4 => exact HC326_0.out)
        rintro e w12 ⟨rfl,hb⟩
        refine ⟨_,rfl,?_⟩
        have n0_:=zm_ (below_step zB_ hb)
        clear HB
        have HB:=n0_
        clear n0_
        (try clear hb)
        (try clear hb2)
        (try clear hk)
        (try clear hi)
        refine hK.out _ _ ⟨((HB.out.cell (zb_ w _ hw325_0)).trans hw325_0),((HB.out.cell (zb_ w _ hw326_0)).trans hw326_0)⟩ (fun hHeld => ?_)
        clear hK K
        refine norm_ (a':=?_) ?_ ?_
        rotate_left
        ·show Act.put _ (some 25) _ = _
         simp only [Act.put,List.setIfInBounds_toArray,List.set_cons_zero,List.set_cons_succ,i64_w,i32_w,IntKind.wrap_u8]
         rfl
        refine pure_ (i:=9) (N:=some 26) (v:=?_) (a':=?_) #[true,true,true,true,true,true,true,true,true,true] rfl rfl (any_of HT_.out (by kernel_rfl)) (fun _ _ _ h => h) (Or.inl ⟨by rfl,?_⟩) ?_ ?_
        rotate_left
        ·intro w'
         go_simp
         with_reducible rfl
        rotate_left
        ·simp only [Act.put,List.setIfInBounds_toArray,List.set_cons_zero,List.set_cons_succ,i64_w,i32_w,IntKind.wrap_u8]
         rfl
        refine done_ (done_of HT_.out (by kernel_rfl)) ?_
        try go_wp2
        go_ret
        exact ⟨zE_,by repeat (first|(with_reducible first|exact HB.out|apply za_|apply zn_|apply zd_)|exact HB.out)⟩
      ·rw [if_neg c6] at H
       exact absurd H (by simp)
     ·rw [if_neg c5] at H
      exact absurd H (by simp)
    ·rw [if_neg c4] at H
     have c4b0 : decide (x5_1 < (l0.length : Int)) = false:=decide_eq_false c4
     clear c4
     obtain rfl:=Option.some.inj H
     go_wp2
     go_ret
     exact ⟨zE_,by repeat (first|(with_reducible first|exact HB.out|apply za_|apply zn_|apply zd_)|exact HB.out)⟩
 ·rw [if_neg c3] at H
  have c3b0 : ((l0.length : Int) == (l1.length : Int)) = false:=beq_eq_false_iff_ne.mpr c3
  have c3b1 : ((l0.length : Int) != (l1.length : Int)) = true:=bne_iff_ne.mpr c3
  have c3b2 : (l0.length == l1.length) = false:=by first|simpa using c3|(simp at c3 ⊢;omega)
  obtain rfl:=Option.some.inj H
  go_enter Try.func56,Try.ntmps56
  go_wp2
  go_ret
  exact ⟨zE_,by repeat (first|(with_reducible first|exact HB.out|apply za_|apply zn_|apply zd_)|exact HB.out)⟩

def laws_eqSym.f (k : Nat) (a0_0 : Int) (a0_1 : ByteArray) (l0_2 : List (S122)) (a0_3 : ByteArray) (a1_0 : Int) (a1_1 : ByteArray) (l1_2 : List (S122)) (a1_3 : ByteArray) : Option (Bool):=if a0_0 = a1_0 then (if a0_1.toList = a1_1.toList then ((laws_eqExprS.f k l0_2 l1_2).bind fun t330 => (if t330 = true then (if a0_3.toList = a1_3.toList then (some true) else (some false)) else (some false))) else (some false)) else (some false)
theorem laws_eqSym.mono : ∀ a0 a1 a2 a3 a4 a5 a6 a7 k,LeO (laws_eqSym.f k a0 a1 a2 a3 a4 a5 a6 a7) (laws_eqSym.f (k + 1) a0 a1 a2 a3 a4 a5 a6 a7):=by
 intro a0 a1 a2 a3 a4 a5 a6 a7 k
 unfold laws_eqSym.f
 repeat' first
   |(with_reducible exact laws_eqExprS.mono _ _ _)
   |(with_reducible exact LeO.refl _)
   |(with_reducible exact LeO.none _)
   |(with_reducible refine LeO.ite ?_ ?_)
   |(with_reducible refine LeO.bind ?_ (fun _ => ?_))
set_option maxHeartbeats 8000000 in
set_option maxRecDepth 100000 in
theorem laws_eqSym.calls (k : Nat) (a0_0 : Int) (a0_1 : ByteArray) (A0_2 : Option Addr) (c0_2 : Nat) (l0_2 : List (S122)) (a0_3 : ByteArray) (a1_0 : Int) (a1_1 : ByteArray) (A1_2 : Option Addr) (c1_2 : Nat) (l1_2 : List (S122)) (a1_3 : ByteArray) (r : Bool) (w : World) (hr0_2 : Kd.C k122 w A0_2 l0_2.length l0_2) (hc0_2 : l0_2.length ≤ c0_2) (hr1_2 : Kd.C k122 w A1_2 l1_2.length l1_2) (hc1_2 : l1_2.length ≤ c1_2) (h : laws_eqSym.f k a0_0 a0_1 l0_2 a0_3 a1_0 a1_1 l1_2 a1_3 = some r) :
  Calls Try.prog 53 #[.agg #[.int .i64 a0_0,.string a0_1,.slice A0_2 l0_2.length c0_2,.string a0_3],.agg #[.int .i64 a1_0,.string a1_1,.slice A1_2 l1_2.length c1_2,.string a1_3]] w fun e w' => e = .returned (.bool r) ∧ Below w.heap.size w w':=by
 have hu110:=Try.underlying110
 have HR0_2:=zm_ hr0_2
 have HC0_2:=zm_ hc0_2
 clear hr0_2 hc0_2
 have HR1_2:=zm_ hr1_2
 have HC1_2:=zm_ hc1_2
 clear hr1_2 hc1_2
 have HB:=zm_ (Below.refl w.heap.size w)
 have H : (if a0_0 = a1_0 then (if a0_1.toList = a1_1.toList then ((laws_eqExprS.f k l0_2 l1_2).bind fun t330 => (if t330 = true then (if a0_3.toList = a1_3.toList then (some true) else (some false)) else (some false))) else (some false)) else (some false)) = some r:=h
 clear h
 by_cases c3 : a0_0 = a1_0
 ·rw [if_pos c3] at H
  have c3b0 : (a0_0 == a1_0) = true:=beq_iff_eq.mpr c3
  have c3b1 : (a0_0 != a1_0) = false:=bne_eq_false_iff_eq.mpr c3
  clear c3
  by_cases c4 : a0_1.toList = a1_1.toList
  ·rw [if_pos c4] at H
   have c4b0 : (a0_1.toList == a1_1.toList) = true:=beq_iff_eq.mpr c4
   have c4b1 : (a0_1.toList != a1_1.toList) = false:=bne_eq_false_iff_eq.mpr c4
   clear c4
   replace H:=Option.bind_eq_some_iff.mp H
   obtain ⟨t330,A50,H⟩:=H
   replace H : (if t330 = true then (if a0_3.toList = a1_3.toList then (some true) else (some false)) else (some false)) = some r:=H
   have A5:=zm_ A50
   clear A50
   by_cases c6 : t330 = true
   ·subst c6
    have H1 : (if a0_3.toList = a1_3.toList then (some true) else (some false)) = some r:=by rw [if_pos rfl] at H;exact H
    clear H
    have H:=H1
    clear H1
    by_cases c7 : a0_3.toList = a1_3.toList
    ·rw [if_pos c7] at H
     have c7b0 : (a0_3.toList == a1_3.toList) = true:=beq_iff_eq.mpr c7
     have c7b1 : (a0_3.toList != a1_3.toList) = false:=bne_eq_false_iff_eq.mpr c7
     clear c7
     obtain rfl:=Option.some.inj H
     go_enter Try.func53,Try.ntmps53
     go_wp2_with (first|((with_reducible refine gate_dst (N:=2) rfl ?_);refine box_event ?hg (N:=2) ?hd (cs:=#[.int .i64 a0_0,.string a0_1,.slice A0_2 l0_2.length c0_2,.string a0_3]) (t:=110) ?hr ?_;(case hd => rfl);(case hg => rfl);(case hr => first|(go_simp;done)|(go_simp;rfl));intro gb328 hg w8 hbox hb;have n0_:=zm_ (below_step zB_ hb);have n1_:=zm_ (hbox);have n2_:=zm_ ((by rw [hg];exact (below_size zB_) : w.heap.size ≤ gb328));have n3_:=zm_ ((by rw [hg];exact (below_size zB_) : w.heap.size ≤ gb328));clear HB;have HB:=n0_;have BK328:=n1_;have GW328:=n2_;have GE328:=n3_;clear n0_ n1_ n2_ n3_;clear hb hbox hg)|((with_reducible refine gate_dst (N:=3) rfl ?_);refine box_event ?hg (N:=3) ?hd (cs:=#[.int .i64 a1_0,.string a1_1,.slice A1_2 l1_2.length c1_2,.string a1_3]) (t:=110) ?hr ?_;(case hd => rfl);(case hg => rfl);(case hr => first|(go_simp;done)|(go_simp;rfl));intro gb329 hg w9 hbox hb;have n0_:=zm_ (blk_below (g:=gb328) (o:=.cells #[.int .i64 a0_0,.string a0_1,.slice A0_2 l0_2.length c0_2,.string a0_3] 110 (0,0)) (by (with_reducible repeat first|refine zl_ ?_ _|refine zr_ ?_|refine zk_ ?_ _);exact BK328.out) hb);have n1_:=zm_ (below_step (by repeat (first|(with_reducible first|exact HB.out|apply za_|apply zn_|apply zd_|refine zs_ ?_ GE328.out)|exact HB.out)) hb);have n2_:=zm_ (hbox);have n3_:=zm_ ((by rw [hg];exact (below_size (by repeat (first|(with_reducible first|exact HB.out|apply za_|apply zn_|apply zd_|refine zs_ ?_ GE328.out)|exact HB.out))) : w.heap.size ≤ gb329));have n4_:=zm_ ((by rw [hg];exact (below_size (by repeat (first|(with_reducible first|exact HB.out|apply za_|apply zn_|apply zd_|refine zs_ ?_ GE328.out)|exact HB.out))) : w.heap.size ≤ gb329));have n5_:=zm_ ((by rw [hg];exact Nat.ne_of_lt (blk_lt (g:=gb328) (o:=.cells #[.int .i64 a0_0,.string a0_1,.slice A0_2 l0_2.length c0_2,.string a0_3] 110 (0,0)) (by (with_reducible repeat first|refine zl_ ?_ _|refine zr_ ?_|refine zk_ ?_ _);exact BK328.out)) : gb328 ≠ gb329));have n6_:=zm_ ((by rw [hg];exact Nat.ne_of_gt (blk_lt (g:=gb328) (o:=.cells #[.int .i64 a0_0,.string a0_1,.slice A0_2 l0_2.length c0_2,.string a0_3] 110 (0,0)) (by (with_reducible repeat first|refine zl_ ?_ _|refine zr_ ?_|refine zk_ ?_ _);exact BK328.out)) : gb329 ≠ gb328));clear BK328;clear HB;have BK328:=n0_;have HB:=n1_;have BK329:=n2_;have GW329:=n3_;have GE329:=n4_;have NB328_329:=n5_;have NB329_328:=n6_;clear n0_ n1_ n2_ n3_ n4_ n5_ n6_;clear hb hbox hg;have hnb10:=NB328_329.out;have hnc10:=NB329_328.out;have hcz11_0 : w9.cell? ⟨gb328,0,none⟩ = some (.int .i64 a0_0):=(zc_ BK328.out 0).trans rfl;have hcz11_1 : w9.cell? ⟨gb328,1,none⟩ = some (.string a0_1):=(zc_ BK328.out 1).trans rfl;have hcz11_2 : w9.cell? ⟨gb328,2,none⟩ = some (.slice A0_2 l0_2.length c0_2):=(zc_ BK328.out 2).trans rfl;have hcz11_3 : w9.cell? ⟨gb328,3,none⟩ = some (.string a0_3):=(zc_ BK328.out 3).trans rfl;have hfz11_0:=zf_ BK328.out 0;have hfz11_1:=zf_ BK328.out 1;have hfz11_2:=zf_ BK328.out 2;have hfz11_3:=zf_ BK328.out 3;have hcz12_0 : w9.cell? ⟨gb329,0,none⟩ = some (.int .i64 a1_0):=(zc_ BK329.out 0).trans rfl;have hcz12_1 : w9.cell? ⟨gb329,1,none⟩ = some (.string a1_1):=(zc_ BK329.out 1).trans rfl;have hcz12_2 : w9.cell? ⟨gb329,2,none⟩ = some (.slice A1_2 l1_2.length c1_2):=(zc_ BK329.out 2).trans rfl;have hcz12_3 : w9.cell? ⟨gb329,3,none⟩ = some (.string a1_3):=(zc_ BK329.out 3).trans rfl;have hfz12_0:=zf_ BK329.out 0;have hfz12_1:=zf_ BK329.out 1;have hfz12_2:=zf_ BK329.out 2;have hfz12_3:=zf_ BK329.out 3)|((with_reducible refine gate_callee (f:=56) rfl ?_);refine goesL_ (some 19) rfl rfl Try.func56 (by kernel_rfl) rfl #[.slice A0_2 l0_2.length c0_2,.slice A1_2 l1_2.length c1_2] rfl zq_ ?_;(with_reducible refine (laws_eqExprS.calls k _ _ l0_2 _ _ l1_2 true _ ?side1 ?side2 ?side3 ?side4 A5.out).mono ?_);(case side1 => repeat (first|exact (Kd.C_below HR0_2.out HB.out)|(with_reducible refine Kd.C_alloc ?_ _)|(with_reducible refine Kd.C_drewN ?_ _)|(with_reducible refine Kd.C_drew ?_)));(case side2 => exact HC0_2.out);(case side3 => repeat (first|exact (Kd.C_below HR1_2.out HB.out)|(with_reducible refine Kd.C_alloc ?_ _)|(with_reducible refine Kd.C_drewN ?_ _)|(with_reducible refine Kd.C_drew ?_)));(case side4 => exact HC1_2.out);rintro e w13 ⟨rfl,hb⟩;refine ⟨_,rfl,?_⟩;have n0_:=zm_ (blk_below (g:=gb328) (o:=.cells #[.int .i64 a0_0,.string a0_1,.slice A0_2 l0_2.length c0_2,.string a0_3] 110 (0,0)) (by (with_reducible repeat first|refine zl_ ?_ _|refine zr_ ?_|refine zk_ ?_ _);exact BK328.out) hb);have n1_:=zm_ (blk_below (g:=gb329) (o:=.cells #[.int .i64 a1_0,.string a1_1,.slice A1_2 l1_2.length c1_2,.string a1_3] 110 (0,0)) (by (with_reducible repeat first|refine zl_ ?_ _|refine zr_ ?_|refine zk_ ?_ _);exact BK329.out) hb);have n2_:=zm_ (below_step (by repeat (first|(with_reducible first|exact HB.out|apply za_|apply zn_|apply zd_|refine zs_ ?_ GE328.out|refine zs_ ?_ GE329.out)|exact HB.out)) hb);clear BK328;clear BK329;clear HB;have BK328:=n0_;have BK329:=n1_;have HB:=n2_;clear n0_ n1_ n2_;(try clear hb);have hcz14_0 : w13.cell? ⟨gb328,0,none⟩ = some (.int .i64 a0_0):=(zc_ BK328.out 0).trans rfl;have hcz14_1 : w13.cell? ⟨gb328,1,none⟩ = some (.string a0_1):=(zc_ BK328.out 1).trans rfl;have hcz14_2 : w13.cell? ⟨gb328,2,none⟩ = some (.slice A0_2 l0_2.length c0_2):=(zc_ BK328.out 2).trans rfl;have hcz14_3 : w13.cell? ⟨gb328,3,none⟩ = some (.string a0_3):=(zc_ BK328.out 3).trans rfl;have hfz14_0:=zf_ BK328.out 0;have hfz14_1:=zf_ BK328.out 1;have hfz14_2:=zf_ BK328.out 2;have hfz14_3:=zf_ BK328.out 3;have hcz15_0 : w13.cell? ⟨gb329,0,none⟩ = some (.int .i64 a1_0):=(zc_ BK329.out 0).trans rfl;have hcz15_1 : w13.cell? ⟨gb329,1,none⟩ = some (.string a1_1):=(zc_ BK329.out 1).trans rfl;have hcz15_2 : w13.cell? ⟨gb329,2,none⟩ = some (.slice A1_2 l1_2.length c1_2):=(zc_ BK329.out 2).trans rfl;have hcz15_3 : w13.cell? ⟨gb329,3,none⟩ = some (.string a1_3):=(zc_ BK329.out 3).trans rfl;have hfz15_0:=zf_ BK329.out 0;have hfz15_1:=zf_ BK329.out 1;have hfz15_2:=zf_ BK329.out 2;have hfz15_3:=zf_ BK329.out 3))
     go_ret
     exact ⟨zE_,by repeat (first|(with_reducible first|exact HB.out|apply za_|apply zn_|apply zd_|refine zs_ ?_ GE328.out|refine zs_ ?_ GE329.out)|exact HB.out)⟩
    ·rw [if_neg c7] at H
     have c7b0 : (a0_3.toList == a1_3.toList) = false:=beq_eq_false_iff_ne.mpr c7
     have c7b1 : (a0_3.toList != a1_3.toList) = true:=bne_iff_ne.mpr c7
     obtain rfl:=Option.some.inj H
     go_enter Try.func53,Try.ntmps53
     go_wp2_with (first|((with_reducible refine gate_dst (N:=2) rfl ?_);refine box_event ?hg (N:=2) ?hd (cs:=#[.int .i64 a0_0,.string a0_1,.slice A0_2 l0_2.length c0_2,.string a0_3]) (t:=110) ?hr ?_;(case hd => rfl);(case hg => rfl);(case hr => first|(go_simp;done)|(go_simp;rfl));intro gb328 hg w16 hbox hb;have n0_:=zm_ (below_step zB_ hb);have n1_:=zm_ (hbox);have n2_:=zm_ ((by rw [hg];exact (below_size zB_) : w.heap.size ≤ gb328));have n3_:=zm_ ((by rw [hg];exact (below_size zB_) : w.heap.size ≤ gb328));clear HB;have HB:=n0_;have BK328:=n1_;have GW328:=n2_;have GE328:=n3_;clear n0_ n1_ n2_ n3_;clear hb hbox hg)|((with_reducible refine gate_dst (N:=3) rfl ?_);refine box_event ?hg (N:=3) ?hd (cs:=#[.int .i64 a1_0,.string a1_1,.slice A1_2 l1_2.length c1_2,.string a1_3]) (t:=110) ?hr ?_;(case hd => rfl);(case hg => rfl);(case hr => first|(go_simp;done)|(go_simp;rfl));intro gb329 hg w17 hbox hb;have n0_:=zm_ (blk_below (g:=gb328) (o:=.cells #[.int .i64 a0_0,.string a0_1,.slice A0_2 l0_2.length c0_2,.string a0_3] 110 (0,0)) (by (with_reducible repeat first|refine zl_ ?_ _|refine zr_ ?_|refine zk_ ?_ _);exact BK328.out) hb);have n1_:=zm_ (below_step (by repeat (first|(with_reducible first|exact HB.out|apply za_|apply zn_|apply zd_|refine zs_ ?_ GE328.out)|exact HB.out)) hb);have n2_:=zm_ (hbox);have n3_:=zm_ ((by rw [hg];exact (below_size (by repeat (first|(with_reducible first|exact HB.out|apply za_|apply zn_|apply zd_|refine zs_ ?_ GE328.out)|exact HB.out))) : w.heap.size ≤ gb329));have n4_:=zm_ ((by rw [hg];exact (below_size (by repeat (first|(with_reducible first|exact HB.out|apply za_|apply zn_|apply zd_|refine zs_ ?_ GE328.out)|exact HB.out))) : w.heap.size ≤ gb329));have n5_:=zm_ ((by rw [hg];exact Nat.ne_of_lt (blk_lt (g:=gb328) (o:=.cells #[.int .i64 a0_0,.string a0_1,.slice A0_2 l0_2.length c0_2,.string a0_3] 110 (0,0)) (by (with_reducible repeat first|refine zl_ ?_ _|refine zr_ ?_|refine zk_ ?_ _);exact BK328.out)) : gb328 ≠ gb329));have n6_:=zm_ ((by rw [hg];exact Nat.ne_of_gt (blk_lt (g:=gb328) (o:=.cells #[.int .i64 a0_0,.string a0_1,.slice A0_2 l0_2.length c0_2,.string a0_3] 110 (0,0)) (by (with_reducible repeat first|refine zl_ ?_ _|refine zr_ ?_|refine zk_ ?_ _);exact BK328.out)) : gb329 ≠ gb328));clear BK328;clear HB;have BK328:=n0_;have HB:=n1_;have BK329:=n2_;have GW329:=n3_;have GE329:=n4_;have NB328_329:=n5_;have NB329_328:=n6_;clear n0_ n1_ n2_ n3_ n4_ n5_ n6_;clear hb hbox hg;have hnb18:=NB328_329.out;have hnc18:=NB329_328.out;have hcz19_0 : w17.cell? ⟨gb328,0,none⟩ = some (.int .i64 a0_0):=(zc_ BK328.out 0).trans rfl;have hcz19_1 : w17.cell? ⟨gb328,1,none⟩ = some (.string a0_1):=(zc_ BK328.out 1).trans rfl;have hcz19_2 : w17.cell? ⟨gb328,2,none⟩ = some (.slice A0_2 l0_2.length c0_2):=(zc_ BK328.out 2).trans rfl;have hcz19_3 : w17.cell? ⟨gb328,3,none⟩ = some (.string a0_3):=(zc_ BK328.out 3).trans rfl;have hfz19_0:=zf_ BK328.out 0;have hfz19_1:=zf_ BK328.out 1;have hfz19_2:=zf_ BK328.out 2;have hfz19_3:=zf_ BK328.out 3;have hcz20_0 : w17.cell? ⟨gb329,0,none⟩ = some (.int .i64 a1_0):=(zc_ BK329.out 0).trans rfl;have hcz20_1 : w17.cell? ⟨gb329,1,none⟩ = some (.string a1_1):=(zc_ BK329.out 1).trans rfl;have hcz20_2 : w17.cell? ⟨gb329,2,none⟩ = some (.slice A1_2 l1_2.length c1_2):=(zc_ BK329.out 2).trans rfl;have hcz20_3 : w17.cell? ⟨gb329,3,none⟩ = some (.string a1_3):=(zc_ BK329.out 3).trans rfl;have hfz20_0:=zf_ BK329.out 0;have hfz20_1:=zf_ BK329.out 1;have hfz20_2:=zf_ BK329.out 2;have hfz20_3:=zf_ BK329.out 3)|((with_reducible refine gate_callee (f:=56) rfl ?_);refine goesL_ (some 19) rfl rfl Try.func56 (by kernel_rfl) rfl #[.slice A0_2 l0_2.length c0_2,.slice A1_2 l1_2.length c1_2] rfl zq_ ?_;(with_reducible refine (laws_eqExprS.calls k _ _ l0_2 _ _ l1_2 true _ ?side1 ?side2 ?side3 ?side4 A5.out).mono ?_);(case side1 => repeat (first|exact (Kd.C_below HR0_2.out HB.out)|(with_reducible refine Kd.C_alloc ?_ _)|(with_reducible refine Kd.C_drewN ?_ _)|(with_reducible refine Kd.C_drew ?_)));(case side2 => exact HC0_2.out);(case side3 => repeat (first|exact (Kd.C_below HR1_2.out HB.out)|(with_reducible refine Kd.C_alloc ?_ _)|(with_reducible refine Kd.C_drewN ?_ _)|(with_reducible refine Kd.C_drew ?_)));(case side4 => exact HC1_2.out);rintro e w21 ⟨rfl,hb⟩;refine ⟨_,rfl,?_⟩;have n0_:=zm_ (blk_below (g:=gb328) (o:=.cells #[.int .i64 a0_0,.string a0_1,.slice A0_2 l0_2.length c0_2,.string a0_3] 110 (0,0)) (by (with_reducible repeat first|refine zl_ ?_ _|refine zr_ ?_|refine zk_ ?_ _);exact BK328.out) hb);have n1_:=zm_ (blk_below (g:=gb329) (o:=.cells #[.int .i64 a1_0,.string a1_1,.slice A1_2 l1_2.length c1_2,.string a1_3] 110 (0,0)) (by (with_reducible repeat first|refine zl_ ?_ _|refine zr_ ?_|refine zk_ ?_ _);exact BK329.out) hb);have n2_:=zm_ (below_step (by repeat (first|(with_reducible first|exact HB.out|apply za_|apply zn_|apply zd_|refine zs_ ?_ GE328.out|refine zs_ ?_ GE329.out)|exact HB.out)) hb);clear BK328;clear BK329;clear HB;have BK328:=n0_;have BK329:=n1_;have HB:=n2_;clear n0_ n1_ n2_;(try clear hb);have hcz22_0 : w21.cell? ⟨gb328,0,none⟩ = some (.int .i64 a0_0):=(zc_ BK328.out 0).trans rfl;have hcz22_1 : w21.cell? ⟨gb328,1,none⟩ = some (.string a0_1):=(zc_ BK328.out 1).trans rfl;have hcz22_2 : w21.cell? ⟨gb328,2,none⟩ = some (.slice A0_2 l0_2.length c0_2):=(zc_ BK328.out 2).trans rfl;have hcz22_3 : w21.cell? ⟨gb328,3,none⟩ = some (.string a0_3):=(zc_ BK328.out 3).trans rfl;have hfz22_0:=zf_ BK328.out 0;have hfz22_1:=zf_ BK328.out 1;have hfz22_2:=zf_ BK328.out 2;have hfz22_3:=zf_ BK328.out 3;have hcz23_0 : w21.cell? ⟨gb329,0,none⟩ = some (.int .i64 a1_0):=(zc_ BK329.out 0).trans rfl;have hcz23_1 : w21.cell? ⟨gb329,1,none⟩ = some (.string a1_1):=(zc_ BK329.out 1).trans rfl;have hcz23_2 : w21.cell? ⟨gb329,2,none⟩ = some (.slice A1_2 l1_2.length c1_2):=(zc_ BK329.out 2).trans rfl;have hcz23_3 : w21.cell? ⟨gb329,3,none⟩ = some (.string a1_3):=(zc_ BK329.out 3).trans rfl;have hfz23_0:=zf_ BK329.out 0;have hfz23_1:=zf_ BK329.out 1;have hfz23_2:=zf_ BK329.out 2;have hfz23_3:=zf_ BK329.out 3))
     go_ret
     exact ⟨zE_,by repeat (first|(with_reducible first|exact HB.out|apply za_|apply zn_|apply zd_|refine zs_ ?_ GE328.out|refine zs_ ?_ GE329.out)|exact HB.out)⟩
   ·replace c6:=Bool.eq_false_iff.mpr c6
    subst c6
    have H1 : (some false) = some r:=by rw [if_neg (show ¬ (false = true) by decide)] at H;exact H
    clear H
    have H:=H1
    clear H1
    obtain rfl:=Option.some.inj H
    go_enter Try.func53,Try.ntmps53
    go_wp2_with (first|((with_reducible refine gate_dst (N:=2) rfl ?_);refine box_event ?hg (N:=2) ?hd (cs:=#[.int .i64 a0_0,.string a0_1,.slice A0_2 l0_2.length c0_2,.string a0_3]) (t:=110) ?hr ?_;(case hd => rfl);(case hg => rfl);(case hr => first|(go_simp;done)|(go_simp;rfl));intro gb328 hg w24 hbox hb;have n0_:=zm_ (below_step zB_ hb);have n1_:=zm_ (hbox);have n2_:=zm_ ((by rw [hg];exact (below_size zB_) : w.heap.size ≤ gb328));have n3_:=zm_ ((by rw [hg];exact (below_size zB_) : w.heap.size ≤ gb328));clear HB;have HB:=n0_;have BK328:=n1_;have GW328:=n2_;have GE328:=n3_;clear n0_ n1_ n2_ n3_;clear hb hbox hg)|((with_reducible refine gate_dst (N:=3) rfl ?_);refine box_event ?hg (N:=3) ?hd (cs:=#[.int .i64 a1_0,.string a1_1,.slice A1_2 l1_2.length c1_2,.string a1_3]) (t:=110) ?hr ?_;(case hd => rfl);(case hg => rfl);(case hr => first|(go_simp;done)|(go_simp;rfl));intro gb329 hg w25 hbox hb;have n0_:=zm_ (blk_below (g:=gb328) (o:=.cells #[.int .i64 a0_0,.string a0_1,.slice A0_2 l0_2.length c0_2,.string a0_3] 110 (0,0)) (by (with_reducible repeat first|refine zl_ ?_ _|refine zr_ ?_|refine zk_ ?_ _);exact BK328.out) hb);have n1_:=zm_ (below_step (by repeat (first|(with_reducible first|exact HB.out|apply za_|apply zn_|apply zd_|refine zs_ ?_ GE328.out)|exact HB.out)) hb);have n2_:=zm_ (hbox);have n3_:=zm_ ((by rw [hg];exact (below_size (by repeat (first|(with_reducible first|exact HB.out|apply za_|apply zn_|apply zd_|refine zs_ ?_ GE328.out)|exact HB.out))) : w.heap.size ≤ gb329));have n4_:=zm_ ((by rw [hg];exact (below_size (by repeat (first|(with_reducible first|exact HB.out|apply za_|apply zn_|apply zd_|refine zs_ ?_ GE328.out)|exact HB.out))) : w.heap.size ≤ gb329));have n5_:=zm_ ((by rw [hg];exact Nat.ne_of_lt (blk_lt (g:=gb328) (o:=.cells #[.int .i64 a0_0,.string a0_1,.slice A0_2 l0_2.length c0_2,.string a0_3] 110 (0,0)) (by (with_reducible repeat first|refine zl_ ?_ _|refine zr_ ?_|refine zk_ ?_ _);exact BK328.out)) : gb328 ≠ gb329));have n6_:=zm_ ((by rw [hg];exact Nat.ne_of_gt (blk_lt (g:=gb328) (o:=.cells #[.int .i64 a0_0,.string a0_1,.slice A0_2 l0_2.length c0_2,.string a0_3] 110 (0,0)) (by (with_reducible repeat first|refine zl_ ?_ _|refine zr_ ?_|refine zk_ ?_ _);exact BK328.out)) : gb329 ≠ gb328));clear BK328;clear HB;have BK328:=n0_;have HB:=n1_;have BK329:=n2_;have GW329:=n3_;have GE329:=n4_;have NB328_329:=n5_;have NB329_328:=n6_;clear n0_ n1_ n2_ n3_ n4_ n5_ n6_;clear hb hbox hg;have hnb26:=NB328_329.out;have hnc26:=NB329_328.out;have hcz27_0 : w25.cell? ⟨gb328,0,none⟩ = some (.int .i64 a0_0):=(zc_ BK328.out 0).trans rfl;have hcz27_1 : w25.cell? ⟨gb328,1,none⟩ = some (.string a0_1):=(zc_ BK328.out 1).trans rfl;have hcz27_2 : w25.cell? ⟨gb328,2,none⟩ = some (.slice A0_2 l0_2.length c0_2):=(zc_ BK328.out 2).trans rfl;have hcz27_3 : w25.cell? ⟨gb328,3,none⟩ = some (.string a0_3):=(zc_ BK328.out 3).trans rfl;have hfz27_0:=zf_ BK328.out 0;have hfz27_1:=zf_ BK328.out 1;have hfz27_2:=zf_ BK328.out 2;have hfz27_3:=zf_ BK328.out 3;have hcz28_0 : w25.cell? ⟨gb329,0,none⟩ = some (.int .i64 a1_0):=(zc_ BK329.out 0).trans rfl;have hcz28_1 : w25.cell? ⟨gb329,1,none⟩ = some (.string a1_1):=(zc_ BK329.out 1).trans rfl;have hcz28_2 : w25.cell? ⟨gb329,2,none⟩ = some (.slice A1_2 l1_2.length c1_2):=(zc_ BK329.out 2).trans rfl;have hcz28_3 : w25.cell? ⟨gb329,3,none⟩ = some (.string a1_3):=(zc_ BK329.out 3).trans rfl;have hfz28_0:=zf_ BK329.out 0;have hfz28_1:=zf_ BK329.out 1;have hfz28_2:=zf_ BK329.out 2;have hfz28_3:=zf_ BK329.out 3)|((with_reducible refine gate_callee (f:=56) rfl ?_);refine goesL_ (some 19) rfl rfl Try.func56 (by kernel_rfl) rfl #[.slice A0_2 l0_2.length c0_2,.slice A1_2 l1_2.length c1_2] rfl zq_ ?_;(with_reducible refine (laws_eqExprS.calls k _ _ l0_2 _ _ l1_2 false _ ?side1 ?side2 ?side3 ?side4 A5.out).mono ?_);(case side1 => repeat (first|exact (Kd.C_below HR0_2.out HB.out)|(with_reducible refine Kd.C_alloc ?_ _)|(with_reducible refine Kd.C_drewN ?_ _)|(with_reducible refine Kd.C_drew ?_)));(case side2 => exact HC0_2.out);(case side3 => repeat (first|exact (Kd.C_below HR1_2.out HB.out)|(with_reducible refine Kd.C_alloc ?_ _)|(with_reducible refine Kd.C_drewN ?_ _)|(with_reducible refine Kd.C_drew ?_)));(case side4 => exact HC1_2.out);rintro e w29 ⟨rfl,hb⟩;refine ⟨_,rfl,?_⟩;have n0_:=zm_ (blk_below (g:=gb328) (o:=.cells #[.int .i64 a0_0,.string a0_1,.slice A0_2 l0_2.length c0_2,.string a0_3] 110 (0,0)) (by (with_reducible repeat first|refine zl_ ?_ _|refine zr_ ?_|refine zk_ ?_ _);exact BK328.out) hb);have n1_:=zm_ (blk_below (g:=gb329) (o:=.cells #[.int .i64 a1_0,.string a1_1,.slice A1_2 l1_2.length c1_2,.string a1_3] 110 (0,0)) (by (with_reducible repeat first|refine zl_ ?_ _|refine zr_ ?_|refine zk_ ?_ _);exact BK329.out) hb);have n2_:=zm_ (below_step (by repeat (first|(with_reducible first|exact HB.out|apply za_|apply zn_|apply zd_|refine zs_ ?_ GE328.out|refine zs_ ?_ GE329.out)|exact HB.out)) hb);clear BK328;clear BK329;clear HB;have BK328:=n0_;have BK329:=n1_;have HB:=n2_;clear n0_ n1_ n2_;(try clear hb)))
    go_ret
    exact ⟨zE_,by repeat (first|(with_reducible first|exact HB.out|apply za_|apply zn_|apply zd_|refine zs_ ?_ GE328.out|refine zs_ ?_ GE329.out)|exact HB.out)⟩
  ·rw [if_neg c4] at H
   have c4b0 : (a0_1.toList == a1_1.toList) = false:=beq_eq_false_iff_ne.mpr c4
   have c4b1 : (a0_1.toList != a1_1.toList) = true:=bne_iff_ne.mpr c4
   obtain rfl:=Option.some.inj H
   go_enter Try.func53,Try.ntmps53
   go_wp2_with (first|((with_reducible refine gate_dst (N:=2) rfl ?_);refine box_event ?hg (N:=2) ?hd (cs:=#[.int .i64 a0_0,.string a0_1,.slice A0_2 l0_2.length c0_2,.string a0_3]) (t:=110) ?hr ?_;(case hd => rfl);(case hg => rfl);(case hr => first|(go_simp;done)|(go_simp;rfl));intro gb328 hg w30 hbox hb;have n0_:=zm_ (below_step zB_ hb);have n1_:=zm_ (hbox);have n2_:=zm_ ((by rw [hg];exact (below_size zB_) : w.heap.size ≤ gb328));have n3_:=zm_ ((by rw [hg];exact (below_size zB_) : w.heap.size ≤ gb328));clear HB;have HB:=n0_;have BK328:=n1_;have GW328:=n2_;have GE328:=n3_;clear n0_ n1_ n2_ n3_;clear hb hbox hg)|((with_reducible refine gate_dst (N:=3) rfl ?_);refine box_event ?hg (N:=3) ?hd (cs:=#[.int .i64 a1_0,.string a1_1,.slice A1_2 l1_2.length c1_2,.string a1_3]) (t:=110) ?hr ?_;(case hd => rfl);(case hg => rfl);(case hr => first|(go_simp;done)|(go_simp;rfl));intro gb329 hg w31 hbox hb;have n0_:=zm_ (blk_below (g:=gb328) (o:=.cells #[.int .i64 a0_0,.string a0_1,.slice A0_2 l0_2.length c0_2,.string a0_3] 110 (0,0)) (by (with_reducible repeat first|refine zl_ ?_ _|refine zr_ ?_|refine zk_ ?_ _);exact BK328.out) hb);have n1_:=zm_ (below_step (by repeat (first|(with_reducible first|exact HB.out|apply za_|apply zn_|apply zd_|refine zs_ ?_ GE328.out)|exact HB.out)) hb);have n2_:=zm_ (hbox);have n3_:=zm_ ((by rw [hg];exact (below_size (by repeat (first|(with_reducible first|exact HB.out|apply za_|apply zn_|apply zd_|refine zs_ ?_ GE328.out)|exact HB.out))) : w.heap.size ≤ gb329));have n4_:=zm_ ((by rw [hg];exact (below_size (by repeat (first|(with_reducible first|exact HB.out|apply za_|apply zn_|apply zd_|refine zs_ ?_ GE328.out)|exact HB.out))) : w.heap.size ≤ gb329));have n5_:=zm_ ((by rw [hg];exact Nat.ne_of_lt (blk_lt (g:=gb328) (o:=.cells #[.int .i64 a0_0,.string a0_1,.slice A0_2 l0_2.length c0_2,.string a0_3] 110 (0,0)) (by (with_reducible repeat first|refine zl_ ?_ _|refine zr_ ?_|refine zk_ ?_ _);exact BK328.out)) : gb328 ≠ gb329));have n6_:=zm_ ((by rw [hg];exact Nat.ne_of_gt (blk_lt (g:=gb328) (o:=.cells #[.int .i64 a0_0,.string a0_1,.slice A0_2 l0_2.length c0_2,.string a0_3] 110 (0,0)) (by (with_reducible repeat first|refine zl_ ?_ _|refine zr_ ?_|refine zk_ ?_ _);exact BK328.out)) : gb329 ≠ gb328));clear BK328;clear HB;have BK328:=n0_;have HB:=n1_;have BK329:=n2_;have GW329:=n3_;have GE329:=n4_;have NB328_329:=n5_;have NB329_328:=n6_;clear n0_ n1_ n2_ n3_ n4_ n5_ n6_;clear hb hbox hg;have hnb32:=NB328_329.out;have hnc32:=NB329_328.out;have hcz33_0 : w31.cell? ⟨gb328,0,none⟩ = some (.int .i64 a0_0):=(zc_ BK328.out 0).trans rfl;have hcz33_1 : w31.cell? ⟨gb328,1,none⟩ = some (.string a0_1):=(zc_ BK328.out 1).trans rfl;have hcz33_2 : w31.cell? ⟨gb328,2,none⟩ = some (.slice A0_2 l0_2.length c0_2):=(zc_ BK328.out 2).trans rfl;have hcz33_3 : w31.cell? ⟨gb328,3,none⟩ = some (.string a0_3):=(zc_ BK328.out 3).trans rfl;have hfz33_0:=zf_ BK328.out 0;have hfz33_1:=zf_ BK328.out 1;have hfz33_2:=zf_ BK328.out 2;have hfz33_3:=zf_ BK328.out 3;have hcz34_0 : w31.cell? ⟨gb329,0,none⟩ = some (.int .i64 a1_0):=(zc_ BK329.out 0).trans rfl;have hcz34_1 : w31.cell? ⟨gb329,1,none⟩ = some (.string a1_1):=(zc_ BK329.out 1).trans rfl;have hcz34_2 : w31.cell? ⟨gb329,2,none⟩ = some (.slice A1_2 l1_2.length c1_2):=(zc_ BK329.out 2).trans rfl;have hcz34_3 : w31.cell? ⟨gb329,3,none⟩ = some (.string a1_3):=(zc_ BK329.out 3).trans rfl;have hfz34_0:=zf_ BK329.out 0;have hfz34_1:=zf_ BK329.out 1;have hfz34_2:=zf_ BK329.out 2;have hfz34_3:=zf_ BK329.out 3))
   go_ret
   exact ⟨zE_,by repeat (first|(with_reducible first|exact HB.out|apply za_|apply zn_|apply zd_|refine zs_ ?_ GE328.out|refine zs_ ?_ GE329.out)|exact HB.out)⟩
 ·rw [if_neg c3] at H
  have c3b0 : (a0_0 == a1_0) = false:=beq_eq_false_iff_ne.mpr c3
  have c3b1 : (a0_0 != a1_0) = true:=bne_iff_ne.mpr c3
  obtain rfl:=Option.some.inj H
  go_enter Try.func53,Try.ntmps53
  go_wp2_with (first|((with_reducible refine gate_dst (N:=2) rfl ?_);refine box_event ?hg (N:=2) ?hd (cs:=#[.int .i64 a0_0,.string a0_1,.slice A0_2 l0_2.length c0_2,.string a0_3]) (t:=110) ?hr ?_;(case hd => rfl);(case hg => rfl);(case hr => first|(go_simp;done)|(go_simp;rfl));intro gb328 hg w35 hbox hb;have n0_:=zm_ (below_step zB_ hb);have n1_:=zm_ (hbox);have n2_:=zm_ ((by rw [hg];exact (below_size zB_) : w.heap.size ≤ gb328));have n3_:=zm_ ((by rw [hg];exact (below_size zB_) : w.heap.size ≤ gb328));clear HB;have HB:=n0_;have BK328:=n1_;have GW328:=n2_;have GE328:=n3_;clear n0_ n1_ n2_ n3_;clear hb hbox hg)|((with_reducible refine gate_dst (N:=3) rfl ?_);refine box_event ?hg (N:=3) ?hd (cs:=#[.int .i64 a1_0,.string a1_1,.slice A1_2 l1_2.length c1_2,.string a1_3]) (t:=110) ?hr ?_;(case hd => rfl);(case hg => rfl);(case hr => first|(go_simp;done)|(go_simp;rfl));intro gb329 hg w36 hbox hb;have n0_:=zm_ (blk_below (g:=gb328) (o:=.cells #[.int .i64 a0_0,.string a0_1,.slice A0_2 l0_2.length c0_2,.string a0_3] 110 (0,0)) (by (with_reducible repeat first|refine zl_ ?_ _|refine zr_ ?_|refine zk_ ?_ _);exact BK328.out) hb);have n1_:=zm_ (below_step (by repeat (first|(with_reducible first|exact HB.out|apply za_|apply zn_|apply zd_|refine zs_ ?_ GE328.out)|exact HB.out)) hb);have n2_:=zm_ (hbox);have n3_:=zm_ ((by rw [hg];exact (below_size (by repeat (first|(with_reducible first|exact HB.out|apply za_|apply zn_|apply zd_|refine zs_ ?_ GE328.out)|exact HB.out))) : w.heap.size ≤ gb329));have n4_:=zm_ ((by rw [hg];exact (below_size (by repeat (first|(with_reducible first|exact HB.out|apply za_|apply zn_|apply zd_|refine zs_ ?_ GE328.out)|exact HB.out))) : w.heap.size ≤ gb329));have n5_:=zm_ ((by rw [hg];exact Nat.ne_of_lt (blk_lt (g:=gb328) (o:=.cells #[.int .i64 a0_0,.string a0_1,.slice A0_2 l0_2.length c0_2,.string a0_3] 110 (0,0)) (by (with_reducible repeat first|refine zl_ ?_ _|refine zr_ ?_|refine zk_ ?_ _);exact BK328.out)) : gb328 ≠ gb329));have n6_:=zm_ ((by rw [hg];exact Nat.ne_of_gt (blk_lt (g:=gb328) (o:=.cells #[.int .i64 a0_0,.string a0_1,.slice A0_2 l0_2.length c0_2,.string a0_3] 110 (0,0)) (by (with_reducible repeat first|refine zl_ ?_ _|refine zr_ ?_|refine zk_ ?_ _);exact BK328.out)) : gb329 ≠ gb328));clear BK328;clear HB;have BK328:=n0_;have HB:=n1_;have BK329:=n2_;have GW329:=n3_;have GE329:=n4_;have NB328_329:=n5_;have NB329_328:=n6_;clear n0_ n1_ n2_ n3_ n4_ n5_ n6_;clear hb hbox hg;have hnb37:=NB328_329.out;have hnc37:=NB329_328.out;have hcz38_0 : w36.cell? ⟨gb328,0,none⟩ = some (.int .i64 a0_0):=(zc_ BK328.out 0).trans rfl;have hcz38_1 : w36.cell? ⟨gb328,1,none⟩ = some (.string a0_1):=(zc_ BK328.out 1).trans rfl;have hcz38_2 : w36.cell? ⟨gb328,2,none⟩ = some (.slice A0_2 l0_2.length c0_2):=(zc_ BK328.out 2).trans rfl;have hcz38_3 : w36.cell? ⟨gb328,3,none⟩ = some (.string a0_3):=(zc_ BK328.out 3).trans rfl;have hfz38_0:=zf_ BK328.out 0;have hfz38_1:=zf_ BK328.out 1;have hfz38_2:=zf_ BK328.out 2;have hfz38_3:=zf_ BK328.out 3;have hcz39_0 : w36.cell? ⟨gb329,0,none⟩ = some (.int .i64 a1_0):=(zc_ BK329.out 0).trans rfl;have hcz39_1 : w36.cell? ⟨gb329,1,none⟩ = some (.string a1_1):=(zc_ BK329.out 1).trans rfl;have hcz39_2 : w36.cell? ⟨gb329,2,none⟩ = some (.slice A1_2 l1_2.length c1_2):=(zc_ BK329.out 2).trans rfl;have hcz39_3 : w36.cell? ⟨gb329,3,none⟩ = some (.string a1_3):=(zc_ BK329.out 3).trans rfl;have hfz39_0:=zf_ BK329.out 0;have hfz39_1:=zf_ BK329.out 1;have hfz39_2:=zf_ BK329.out 2;have hfz39_3:=zf_ BK329.out 3))
  go_ret
  exact ⟨zE_,by repeat (first|(with_reducible first|exact HB.out|apply za_|apply zn_|apply zd_|refine zs_ ?_ GE328.out|refine zs_ ?_ GE329.out)|exact HB.out)⟩

end Go.Proofs.Ytkbgmojomgelbaa.MFnExactTreeText
