import Derived.Test.YtnmhggdaccbbfaaDoorMFnExactShowExprx0
import Derived.Test.YtnmhggdaccbbfaaDoorMFnExactShowExprx1
import Derived.Test.YtnmhggdaccbbfaaDoorMFnExactShowExprx4
import Derived.Test.YtnmhggdaccbbfaaDoorMFnExactShowExprx5
import Derived.Test.YtnmhggdaccbbfaaDoorMFnExactShowExprx8
namespace Go.Proofs.YtnmhggdaccbbfaaDoor.MFnExactShowExpr
open Go.RowKit Go.Proofs.YtnmhggdaccbbfaaDoorW.PrintWords Go.Proofs.YtnmhggdaccbbfaaDoorW.PrintLast Go.Proofs.YtnmhggdaccbbfaaDoorW.PrintMore
attribute [local go_sem] max2_int min2_int max_two min_two max_three min_three max_four min_four
set_option linter.unusedVariables false
set_option linter.unusedSimpArgs false

def laws_eqExNodeS.l0 : Nat → List (S70) → List (S70) → Int → Option (Bool)
 |0,_,_,_ => none
 |k + 1,x0,x1,x5 => if x5 < (x0.length : Int) then (if 0 ≤ x5 then (if x5 < (x1.length : Int) then ((laws_eqExNode.f k ((rd_T70 x0 x5).f0) ((rd_T70 x0 x5).f1) ((rd_T70 x0 x5).f2) ((rd_T70 x0 x5).f3) ((rd_T70 x1 x5).f0) ((rd_T70 x1 x5).f1) ((rd_T70 x1 x5).f2) ((rd_T70 x1 x5).f3)).bind fun t242 => (if t242 = true then (laws_eqExNodeS.l0 k x0 x1 (wrap64 (x5 + 1))) else (some false))) else (none)) else (none)) else (some true)
def laws_eqExNodeS.f (k : Nat) (l0 : List (S70)) (l1 : List (S70)) : Option (Bool):=if (l0.length : Int) = (l1.length : Int) then (laws_eqExNodeS.l0 k l0 l1 0) else (some false)
theorem laws_eqExNodeS.mono_l : ∀ k,(∀ y0 y1 y2,LeO (laws_eqExNodeS.l0 k y0 y1 y2) (laws_eqExNodeS.l0 (k + 1) y0 y1 y2))
 |0 => fun _ _ _ r h => by simp [laws_eqExNodeS.l0] at h
 |k + 1 => by
  have ih0:=laws_eqExNodeS.mono_l k
  ·intro y0 y1 y2
   unfold laws_eqExNodeS.l0
   repeat' first
   |(with_reducible exact ih0 _ _ _)
   |(with_reducible exact laws_eqExNode.mono _ _ _ _ _ _ _ _ _)
   |(with_reducible exact LeO.refl _)
   |(with_reducible exact LeO.none _)
   |(with_reducible refine LeO.ite ?_ ?_)
   |(with_reducible refine LeO.bind ?_ (fun _ => ?_))
theorem laws_eqExNodeS.mono : ∀ a0 a1 k,LeO (laws_eqExNodeS.f k a0 a1) (laws_eqExNodeS.f (k + 1) a0 a1):=by
 intro a0 a1 k
 have ih0:=laws_eqExNodeS.mono_l k
 unfold laws_eqExNodeS.f
 repeat' first
   |(with_reducible exact ih0 _ _ _)
   |(with_reducible exact laws_eqExNode.mono _ _ _ _ _ _ _ _ _)
   |(with_reducible exact LeO.refl _)
   |(with_reducible exact LeO.none _)
   |(with_reducible refine LeO.ite ?_ ?_)
   |(with_reducible refine LeO.bind ?_ (fun _ => ?_))
def laws_eqExNodeS.T6 : Bool × List (List Nat × List Nat):=(true,[([],[]),([],[]),([0,1],[0,1]),([2],[2]),([],[]),([],[]),([4,5],[4,5]),([6],[6]),([3,7],[3,7]),([8],[8])])
def laws_eqExNodeS.B6 : List Nat:=[0,0,3,7,0,0,48,112,255,511]
theorem laws_eqExNodeS.tab6 : rtab .any (opsOf Tryd.f47 6) = laws_eqExNodeS.T6:=by kernel_rfl
theorem laws_eqExNodeS.bits6 : waitsOk laws_eqExNodeS.T6.2 laws_eqExNodeS.B6 = true:=by kernel_rfl
set_option maxHeartbeats 8000000 in
set_option maxRecDepth 100000 in
theorem laws_eqExNodeS.calls (k : Nat) (A0 : Option Addr) (c0 : Nat) (l0 : List (S70)) (A1 : Option Addr) (c1 : Nat) (l1 : List (S70)) (r : Bool) (w : World) (hr0 : Kd.C k70 w A0 l0.length l0) (hc0 : l0.length ≤ c0) (hr1 : Kd.C k70 w A1 l1.length l1) (hc1 : l1.length ≤ c1) (h : laws_eqExNodeS.f k l0 l1 = some r) :
  Calls Tryd.prog 47 #[.slice A0 l0.length c0,.slice A1 l1.length c1] w fun e w' => e = .returned (.bool r) ∧ Below w.heap.size w w':=by
 have hu70:=Tryd.underlying70
 have HR0:=zm_ hr0
 have HC0:=zm_ hc0
 clear hr0 hc0
 have HR1:=zm_ hr1
 have HC1:=zm_ hc1
 clear hr1 hc1
 have HB:=zm_ (Below.refl w.heap.size w)
 have H : (if (l0.length : Int) = (l1.length : Int) then (laws_eqExNodeS.l0 k l0 l1 0) else (some false)) = some r:=h
 clear h
 by_cases c3 : (l0.length : Int) = (l1.length : Int)
 ·rw [if_pos c3] at H
  have c3b0 : ((l0.length : Int) == (l1.length : Int)) = true:=beq_iff_eq.mpr c3
  have c3b1 : ((l0.length : Int) != (l1.length : Int)) = false:=bne_eq_false_iff_eq.mpr c3
  have c3b2 : (l0.length == l1.length) = true:=by first|simpa using c3|(simp at c3 ⊢;omega)
  clear c3
  have H':=zm_ H
  clear H
  go_enter Tryd.func47,Tryd.ntmps47
  go_wp2
  go_loopg [5] k (fun kq v5 w' => ∃ (x5_1 : Int),v5 = .int .i64 x5_1 ∧ Aside0 (laws_eqExNodeS.l0 kq l0 l1 x5_1 = some r) ∧ Aside0 (kq ≤ k) ∧ Aside0 (Below w.heap.size w w'))
  case atStart => exact ⟨(0),(by first|rfl|(exact congrArg Value.bool (isEmpty_ne _))|(exact congrArg Value.bool (isEmpty_ne' _))|(exact congrArg Value.bool (isEmpty_eq _))|(simp;done)|(simp [*];done)),H',⟨Nat.le_refl _⟩,⟨by repeat (first|(with_reducible first|exact HB.out|apply za_|apply zn_|apply zd_)|exact HB.out)⟩⟩
  case round =>
   clear H'
   try clear c1
   try clear p2
   try clear c3
   try clear c3b0
   try clear c3b1
   try clear c3b2
   obtain ⟨x5_1,rfl,HA,HK1,HB⟩:=hrel
   cases gk with
   |zero => exact absurd HA.out (by simp [laws_eqExNodeS.l0])
   |succ k1 =>
    have H:=HA.out
    clear HA
    simp only [laws_eqExNodeS.l0] at H
    by_cases c4 : x5_1 < (l0.length : Int)
    ·rw [if_pos c4] at H
     have c4b0 : decide (x5_1 < (l0.length : Int)) = true:=decide_eq_true c4
     clear c4
     by_cases c5 : 0 ≤ x5_1
     ·rw [if_pos c5] at H
      have c5b0 : decide (0 ≤ x5_1) = true:=decide_eq_true c5
      clear c5
      by_cases c6 : x5_1 < (l1.length : Int)
      ·rw [if_pos c6] at H
       have c6b0 : decide (x5_1 < (l1.length : Int)) = true:=decide_eq_true c6
       clear c6
       replace H:=Option.bind_eq_some_iff.mp H
       obtain ⟨t242,A70,H⟩:=H
       replace H : (if t242 = true then (laws_eqExNodeS.l0 k1 l0 l1 (wrap64 (x5_1 + 1))) else (some false)) = some r:=H
       have A7:=zm_ A70
       clear A70
       by_cases c8 : t242 = true
       ·subst c8
        have H1 : (laws_eqExNodeS.l0 k1 l0 l1 (wrap64 (x5_1 + 1))) = some r:=by rw [if_pos rfl] at H;exact H
        clear H
        have H:=H1
        clear H1
        have H':=zm_ H
        clear H
        try go_wp2
        have n0_:=zm_ (zd_ HB.out)
        clear HB
        have HB:=n0_
        clear n0_
        have p240 : 0 ≤ (x5_1 : Int):=zo_
        have q240 : x5_1 < (l0.length : Int):=zo_
        obtain ⟨ad240,A240_3,c240_3,e240,hx240_0,hx240_1,hx240_2,hx240_3,hl240_3,hi240_3⟩:=at_T70 HR0.out x5_1 p240 q240
        have hw240_3:=hx240_3
        have hw240_2:=hx240_2
        have hw240_1:=hx240_1
        have hw240_0:=hx240_0
        cases e240
        replace hx240_0:=(HB.out.cell (zb_ w _ hx240_0)).trans hx240_0
        replace hx240_1:=(HB.out.cell (zb_ w _ hx240_1)).trans hx240_1
        replace hx240_2:=(HB.out.cell (zb_ w _ hx240_2)).trans hx240_2
        replace hx240_3:=(HB.out.cell (zb_ w _ hx240_3)).trans hx240_3
        have HR240_3:=zm_ hi240_3
        have HC240_3:=zm_ hl240_3
        clear hi240_3 hl240_3
        replace p240:=eq_true p240
        replace q240:=eq_true q240
        have p241 : 0 ≤ (x5_1 : Int):=zo_
        have q241 : x5_1 < (l1.length : Int):=zo_
        obtain ⟨ad241,A241_3,c241_3,e241,hx241_0,hx241_1,hx241_2,hx241_3,hl241_3,hi241_3⟩:=at_T70 HR1.out x5_1 p241 q241
        have hw241_3:=hx241_3
        have hw241_2:=hx241_2
        have hw241_1:=hx241_1
        have hw241_0:=hx241_0
        cases e241
        replace hx241_0:=(HB.out.cell (zb_ w _ hx241_0)).trans hx241_0
        replace hx241_1:=(HB.out.cell (zb_ w _ hx241_1)).trans hx241_1
        replace hx241_2:=(HB.out.cell (zb_ w _ hx241_2)).trans hx241_2
        replace hx241_3:=(HB.out.cell (zb_ w _ hx241_3)).trans hx241_3
        have HR241_3:=zm_ hi241_3
        have HC241_3:=zm_ hl241_3
        clear hi241_3 hl241_3
        replace p241:=eq_true p241
        replace q241:=eq_true q241
        refine start_ (n:=10) (S:=fun w' => w'.cell? (ad240.add ((x5_1).toNat * 4)) = some (.int .i64 ((rd_T70 l0 x5_1).f0)) ∧ w'.cell? ⟨(ad240.add ((x5_1).toNat * 4)).block,(ad240.add ((x5_1).toNat * 4)).off + 1,none⟩ = some (.int .i64 ((rd_T70 l0 x5_1).f1)) ∧ w'.cell? ⟨(ad240.add ((x5_1).toNat * 4)).block,(ad240.add ((x5_1).toNat * 4)).off + 2,none⟩ = some (.string ((rd_T70 l0 x5_1).f2)) ∧ w'.cell? ⟨(ad240.add ((x5_1).toNat * 4)).block,(ad240.add ((x5_1).toNat * 4)).off + 3,none⟩ = some (.slice A240_3 ((rd_T70 l0 x5_1).f3).length c240_3) ∧ w'.cell? (ad241.add ((x5_1).toNat * 4)) = some (.int .i64 ((rd_T70 l1 x5_1).f0)) ∧ w'.cell? ⟨(ad241.add ((x5_1).toNat * 4)).block,(ad241.add ((x5_1).toNat * 4)).off + 1,none⟩ = some (.int .i64 ((rd_T70 l1 x5_1).f1)) ∧ w'.cell? ⟨(ad241.add ((x5_1).toNat * 4)).block,(ad241.add ((x5_1).toNat * 4)).off + 2,none⟩ = some (.string ((rd_T70 l1 x5_1).f2)) ∧ w'.cell? ⟨(ad241.add ((x5_1).toNat * 4)).block,(ad241.add ((x5_1).toNat * 4)).off + 3,none⟩ = some (.slice A241_3 ((rd_T70 l1 x5_1).f3).length c241_3)) (ds:=[]) #[false,false,false,false,false,false,false,false,false,false] (by kernel_rfl) rfl rfl ⟨((HB.out.cell (zb_ w _ hw240_0)).trans hw240_0),((HB.out.cell (zb_ w _ hw240_1)).trans hw240_1),((HB.out.cell (zb_ w _ hw240_2)).trans hw240_2),((HB.out.cell (zb_ w _ hw240_3)).trans hw240_3),((HB.out.cell (zb_ w _ hw241_0)).trans hw241_0),((HB.out.cell (zb_ w _ hw241_1)).trans hw241_1),((HB.out.cell (zb_ w _ hw241_2)).trans hw241_2),((HB.out.cell (zb_ w _ hw241_3)).trans hw241_3)⟩ (fun hHeld => ?_);refine with_tabW laws_eqExNodeS.tab6 laws_eqExNodeS.bits6 (fun HT_ HW_ => ?_)
        generalize wr.drew = w9 at HB HR240_3 HR241_3 hx240_0 hx240_1 hx240_2 hx240_3 hx241_0 hx241_1 hx241_2 hx241_3 hHeld ⊢
        refine pure_ (i:=0) (N:=some 17) (v:=?_) (a':=?_) #[true,false,false,false,false,false,false,false,false,false] rfl rfl (any_of HT_.out (by kernel_rfl)) (fun _ _ _ h => h) (Or.inl ⟨by rfl,?_⟩) ?_ ?_
        rotate_left
        ·intro w'
         go_simp
         with_reducible rfl
        rotate_left
        ·simp only [Act.put,List.setIfInBounds_toArray,List.set_cons_zero,List.set_cons_succ,i64_w,i32_w,IntKind.wrap_u8]
         rfl
        refine pure_ (i:=1) (N:=some 18) (v:=?_) (a':=?_) #[true,true,false,false,false,false,false,false,false,false] rfl rfl (any_of HT_.out (by kernel_rfl)) (fun _ _ _ h => h) (Or.inl ⟨by rfl,?_⟩) ?_ ?_
        rotate_left
        ·intro w'
         go_simp
         with_reducible rfl
        rotate_left
        ·simp only [Act.put,List.setIfInBounds_toArray,List.set_cons_zero,List.set_cons_succ,i64_w,i32_w,IntKind.wrap_u8]
         rfl
        refine pure_ (i:=2) (N:=some 19) (v:=?_) (a':=?_) #[true,true,true,false,false,false,false,false,false,false] rfl rfl (any_of HT_.out (by kernel_rfl)) (fun _ _ _ h => h) (Or.inl ⟨by rfl,?_⟩) ?_ ?_
        rotate_left
        ·intro w'
         go_simp
         with_reducible rfl
        rotate_left
        ·simp only [Act.put,List.setIfInBounds_toArray,List.set_cons_zero,List.set_cons_succ,i64_w,i32_w,IntKind.wrap_u8]
         rfl
        refine pure_ (i:=4) (N:=some 21) (v:=?_) (a':=?_) #[true,true,true,false,true,false,false,false,false,false] rfl rfl (any_of HT_.out (by kernel_rfl)) (fun _ _ _ h => h) (Or.inl ⟨by rfl,?_⟩) ?_ ?_
        rotate_left
        ·intro w'
         go_simp
         with_reducible rfl
        rotate_left
        ·simp only [Act.put,List.setIfInBounds_toArray,List.set_cons_zero,List.set_cons_succ,i64_w,i32_w,IntKind.wrap_u8]
         rfl
        refine pure_ (i:=5) (N:=some 22) (v:=?_) (a':=?_) #[true,true,true,false,true,true,false,false,false,false] rfl rfl (any_of HT_.out (by kernel_rfl)) (fun _ _ _ h => h) (Or.inl ⟨by rfl,?_⟩) ?_ ?_
        rotate_left
        ·intro w'
         go_simp
         with_reducible rfl
        rotate_left
        ·simp only [Act.put,List.setIfInBounds_toArray,List.set_cons_zero,List.set_cons_succ,i64_w,i32_w,IntKind.wrap_u8]
         rfl
        refine pure_ (i:=6) (N:=some 23) (v:=?_) (a':=?_) #[true,true,true,false,true,true,true,false,false,false] rfl rfl (any_of HT_.out (by kernel_rfl)) (fun _ _ _ h => h) (Or.inl ⟨by rfl,?_⟩) ?_ ?_
        rotate_left
        ·intro w'
         go_simp
         with_reducible rfl
        rotate_left
        ·simp only [Act.put,List.setIfInBounds_toArray,List.set_cons_zero,List.set_cons_succ,i64_w,i32_w,IntKind.wrap_u8]
         rfl
        refine take_ (i:=3) (N:=some 20) (v:=?_) (a':=?_) #[true,true,true,true,true,true,true,false,false,false] rfl rfl (take_ofW HT_.out HW_.out (by kernel_rfl)) (fun _ _ _ h => h) (Or.inl ⟨by rfl,?_⟩) hHeld ?_ ?_
        rotate_left
        ·rintro w' ⟨s0,s1,s2,s3,s4,s5,s6,s7⟩
         go_simp
         with_reducible rfl
        rotate_left
        ·simp only [Act.put,List.setIfInBounds_toArray,List.set_cons_zero,List.set_cons_succ,i64_w,i32_w,IntKind.wrap_u8]
         rfl
        refine take_ (i:=7) (N:=some 24) (v:=?_) (a':=?_) #[true,true,true,true,true,true,true,true,false,false] rfl rfl (take_ofW HT_.out HW_.out (by kernel_rfl)) (fun _ _ _ h => h) (Or.inl ⟨by rfl,?_⟩) hHeld ?_ ?_
        rotate_left
        ·rintro w' ⟨s0,s1,s2,s3,s4,s5,s6,s7⟩
         go_simp
         with_reducible rfl
        rotate_left
        ·simp only [Act.put,List.setIfInBounds_toArray,List.set_cons_zero,List.set_cons_succ,i64_w,i32_w,IntKind.wrap_u8]
         rfl
        refine one_ (i:=8) (N:=some 25) #[true,true,true,true,true,true,true,true,true,false] rfl rfl (one_of HT_.out (by kernel_rfl)) (by decide) (fun K hK => ?_)
        refine goes_ Tryd.func63 (by kernel_rfl) rfl #[.agg #[.int .i64 ((rd_T70 l0 x5_1).f0),.int .i64 ((rd_T70 l0 x5_1).f1),.string ((rd_T70 l0 x5_1).f2),.slice A240_3 ((rd_T70 l0 x5_1).f3).length c240_3],.agg #[.int .i64 ((rd_T70 l1 x5_1).f0),.int .i64 ((rd_T70 l1 x5_1).f1),.string ((rd_T70 l1 x5_1).f2),.slice A241_3 ((rd_T70 l1 x5_1).f3).length c241_3]] (by rfl) rfl rfl (by (try simp only [List.map_toArray,List.map_cons,List.map_nil]);first|done|rfl|(simp only [List.length_drop,List.length_take];rfl)) ?_
        with_reducible refine (laws_eqExNode.calls k1 ((rd_T70 l0 x5_1).f0) ((rd_T70 l0 x5_1).f1) ((rd_T70 l0 x5_1).f2) _ _ ((rd_T70 l0 x5_1).f3) ((rd_T70 l1 x5_1).f0) ((rd_T70 l1 x5_1).f1) ((rd_T70 l1 x5_1).f2) _ _ ((rd_T70 l1 x5_1).f3) true _ ?side1 ?side2 ?side3 ?side4 A7.out).mono ?_
        (case side1 => repeat (first|exact (Kd.C_below HR240_3.out HB.out)|(with_reducible refine Kd.C_alloc ?_ _)|(with_reducible refine Kd.C_drewN ?_ _)|(with_reducible refine Kd.C_drew ?_)))
        (case side2 => exact HC240_3.out)
        (case side3 => repeat (first|exact (Kd.C_below HR241_3.out HB.out)|(with_reducible refine Kd.C_alloc ?_ _)|(with_reducible refine Kd.C_drewN ?_ _)|(with_reducible refine Kd.C_drew ?_)))
        (case side4 => exact HC241_3.out)
        rintro e w10 ⟨rfl,hb⟩
        refine ⟨_,rfl,?_⟩
        have n0_:=zm_ (below_step (by repeat (first|(with_reducible first|exact HB.out|apply za_|apply zn_|apply zd_)|exact HB.out)) hb)
        clear HB
        have HB:=n0_
        clear n0_
        (try clear hb)
        (try clear hb2)
        (try clear hk)
        (try clear hi)
        refine hK.out _ _ ⟨((HB.out.cell (zb_ w _ hw240_0)).trans hw240_0),((HB.out.cell (zb_ w _ hw240_1)).trans hw240_1),((HB.out.cell (zb_ w _ hw240_2)).trans hw240_2),((HB.out.cell (zb_ w _ hw240_3)).trans hw240_3),((HB.out.cell (zb_ w _ hw241_0)).trans hw241_0),((HB.out.cell (zb_ w _ hw241_1)).trans hw241_1),((HB.out.cell (zb_ w _ hw241_2)).trans hw241_2),((HB.out.cell (zb_ w _ hw241_3)).trans hw241_3)⟩ (fun hHeld => ?_)
        clear hK K
        refine norm_ (a':=?_) ?_ ?_
        rotate_left
        ·show Act.put _ (some 25) _ = _
         simp only [Act.put,List.setIfInBounds_toArray,List.set_cons_zero,List.set_cons_succ,i64_w,i32_w,IntKind.wrap_u8]
         rfl
        refine pure_ (i:=9) (N:=some 26) (v:=?_) (a':=?_) #[true,true,true,true,true,true,true,true,true,true] rfl rfl (any_of HT_.out (by kernel_rfl)) (fun _ _ _ h => h) (Or.inl ⟨by rfl,?_⟩) ?_ ?_
        rotate_left
        ·intro w'
         go_simp
         with_reducible rfl
        rotate_left
        ·simp only [Act.put,List.setIfInBounds_toArray,List.set_cons_zero,List.set_cons_succ,i64_w,i32_w,IntKind.wrap_u8]
         rfl
        refine done_ (done_of HT_.out (by kernel_rfl)) ?_
        try go_wp2
        go_roundg k1
        case measure => have:=HK1.out;omega
        case rel => exact ⟨(wrap64 (x5_1 + 1)),(by first|rfl|(exact congrArg Value.bool (isEmpty_ne _))|(exact congrArg Value.bool (isEmpty_ne' _))|(exact congrArg Value.bool (isEmpty_eq _))|(simp;done)|(simp [*];done)),H',⟨by have:=HK1.out;omega⟩,⟨by repeat (first|(with_reducible first|exact HB.out|apply za_|apply zn_|apply zd_)|exact HB.out)⟩⟩
       ·replace c8:=Bool.eq_false_iff.mpr c8
        subst c8
        have H1 : (some false) = some r:=by rw [if_neg (show ¬ (false = true) by decide)] at H;exact H
        clear H
        have H:=H1
        clear H1
        obtain rfl:=Option.some.inj H
        try go_wp2
        have n0_:=zm_ (zd_ HB.out)
        clear HB
        have HB:=n0_
        clear n0_
        have p240 : 0 ≤ (x5_1 : Int):=zo_
        have q240 : x5_1 < (l0.length : Int):=zo_
        obtain ⟨ad240,A240_3,c240_3,e240,hx240_0,hx240_1,hx240_2,hx240_3,hl240_3,hi240_3⟩:=at_T70 HR0.out x5_1 p240 q240
        have hw240_3:=hx240_3
        have hw240_2:=hx240_2
        have hw240_1:=hx240_1
        have hw240_0:=hx240_0
        cases e240
        replace hx240_0:=(HB.out.cell (zb_ w _ hx240_0)).trans hx240_0
        replace hx240_1:=(HB.out.cell (zb_ w _ hx240_1)).trans hx240_1
        replace hx240_2:=(HB.out.cell (zb_ w _ hx240_2)).trans hx240_2
        replace hx240_3:=(HB.out.cell (zb_ w _ hx240_3)).trans hx240_3
        have HR240_3:=zm_ hi240_3
        have HC240_3:=zm_ hl240_3
        clear hi240_3 hl240_3
        replace p240:=eq_true p240
        replace q240:=eq_true q240
        have p241 : 0 ≤ (x5_1 : Int):=zo_
        have q241 : x5_1 < (l1.length : Int):=zo_
        obtain ⟨ad241,A241_3,c241_3,e241,hx241_0,hx241_1,hx241_2,hx241_3,hl241_3,hi241_3⟩:=at_T70 HR1.out x5_1 p241 q241
        have hw241_3:=hx241_3
        have hw241_2:=hx241_2
        have hw241_1:=hx241_1
        have hw241_0:=hx241_0
        cases e241
        replace hx241_0:=(HB.out.cell (zb_ w _ hx241_0)).trans hx241_0
        replace hx241_1:=(HB.out.cell (zb_ w _ hx241_1)).trans hx241_1
        replace hx241_2:=(HB.out.cell (zb_ w _ hx241_2)).trans hx241_2
        replace hx241_3:=(HB.out.cell (zb_ w _ hx241_3)).trans hx241_3
        have HR241_3:=zm_ hi241_3
        have HC241_3:=zm_ hl241_3
        clear hi241_3 hl241_3
        replace p241:=eq_true p241
        replace q241:=eq_true q241
        refine start_ (n:=10) (S:=fun w' => w'.cell? (ad240.add ((x5_1).toNat * 4)) = some (.int .i64 ((rd_T70 l0 x5_1).f0)) ∧ w'.cell? ⟨(ad240.add ((x5_1).toNat * 4)).block,(ad240.add ((x5_1).toNat * 4)).off + 1,none⟩ = some (.int .i64 ((rd_T70 l0 x5_1).f1)) ∧ w'.cell? ⟨(ad240.add ((x5_1).toNat * 4)).block,(ad240.add ((x5_1).toNat * 4)).off + 2,none⟩ = some (.string ((rd_T70 l0 x5_1).f2)) ∧ w'.cell? ⟨(ad240.add ((x5_1).toNat * 4)).block,(ad240.add ((x5_1).toNat * 4)).off + 3,none⟩ = some (.slice A240_3 ((rd_T70 l0 x5_1).f3).length c240_3) ∧ w'.cell? (ad241.add ((x5_1).toNat * 4)) = some (.int .i64 ((rd_T70 l1 x5_1).f0)) ∧ w'.cell? ⟨(ad241.add ((x5_1).toNat * 4)).block,(ad241.add ((x5_1).toNat * 4)).off + 1,none⟩ = some (.int .i64 ((rd_T70 l1 x5_1).f1)) ∧ w'.cell? ⟨(ad241.add ((x5_1).toNat * 4)).block,(ad241.add ((x5_1).toNat * 4)).off + 2,none⟩ = some (.string ((rd_T70 l1 x5_1).f2)) ∧ w'.cell? ⟨(ad241.add ((x5_1).toNat * 4)).block,(ad241.add ((x5_1).toNat * 4)).off + 3,none⟩ = some (.slice A241_3 ((rd_T70 l1 x5_1).f3).length c241_3)) (ds:=[]) #[false,false,false,false,false,false,false,false,false,false] (by kernel_rfl) rfl rfl ⟨((HB.out.cell (zb_ w _ hw240_0)).trans hw240_0),((HB.out.cell (zb_ w _ hw240_1)).trans hw240_1),((HB.out.cell (zb_ w _ hw240_2)).trans hw240_2),((HB.out.cell (zb_ w _ hw240_3)).trans hw240_3),((HB.out.cell (zb_ w _ hw241_0)).trans hw241_0),((HB.out.cell (zb_ w _ hw241_1)).trans hw241_1),((HB.out.cell (zb_ w _ hw241_2)).trans hw241_2),((HB.out.cell (zb_ w _ hw241_3)).trans hw241_3)⟩ (fun hHeld => ?_);refine with_tabW laws_eqExNodeS.tab6 laws_eqExNodeS.bits6 (fun HT_ HW_ => ?_)
        generalize wr.drew = w11 at HB HR240_3 HR241_3 hx240_0 hx240_1 hx240_2 hx240_3 hx241_0 hx241_1 hx241_2 hx241_3 hHeld ⊢
        refine pure_ (i:=0) (N:=some 17) (v:=?_) (a':=?_) #[true,false,false,false,false,false,false,false,false,false] rfl rfl (any_of HT_.out (by kernel_rfl)) (fun _ _ _ h => h) (Or.inl ⟨by rfl,?_⟩) ?_ ?_
        rotate_left
        ·intro w'
         go_simp
         with_reducible rfl
        rotate_left
        ·simp only [Act.put,List.setIfInBounds_toArray,List.set_cons_zero,List.set_cons_succ,i64_w,i32_w,IntKind.wrap_u8]
         rfl
        refine pure_ (i:=1) (N:=some 18) (v:=?_) (a':=?_) #[true,true,false,false,false,false,false,false,false,false] rfl rfl (any_of HT_.out (by kernel_rfl)) (fun _ _ _ h => h) (Or.inl ⟨by rfl,?_⟩) ?_ ?_
        rotate_left
        ·intro w'
         go_simp
         with_reducible rfl
        rotate_left
        ·simp only [Act.put,List.setIfInBounds_toArray,List.set_cons_zero,List.set_cons_succ,i64_w,i32_w,IntKind.wrap_u8]
         rfl
        refine pure_ (i:=2) (N:=some 19) (v:=?_) (a':=?_) #[true,true,true,false,false,false,false,false,false,false] rfl rfl (any_of HT_.out (by kernel_rfl)) (fun _ _ _ h => h) (Or.inl ⟨by rfl,?_⟩) ?_ ?_
        rotate_left
        ·intro w'
         go_simp
         with_reducible rfl
        rotate_left
        ·simp only [Act.put,List.setIfInBounds_toArray,List.set_cons_zero,List.set_cons_succ,i64_w,i32_w,IntKind.wrap_u8]
         rfl
        refine pure_ (i:=4) (N:=some 21) (v:=?_) (a':=?_) #[true,true,true,false,true,false,false,false,false,false] rfl rfl (any_of HT_.out (by kernel_rfl)) (fun _ _ _ h => h) (Or.inl ⟨by rfl,?_⟩) ?_ ?_
        rotate_left
        ·intro w'
         go_simp
         with_reducible rfl
        rotate_left
        ·simp only [Act.put,List.setIfInBounds_toArray,List.set_cons_zero,List.set_cons_succ,i64_w,i32_w,IntKind.wrap_u8]
         rfl
        refine pure_ (i:=5) (N:=some 22) (v:=?_) (a':=?_) #[true,true,true,false,true,true,false,false,false,false] rfl rfl (any_of HT_.out (by kernel_rfl)) (fun _ _ _ h => h) (Or.inl ⟨by rfl,?_⟩) ?_ ?_
        rotate_left
        ·intro w'
         go_simp
         with_reducible rfl
        rotate_left
        ·simp only [Act.put,List.setIfInBounds_toArray,List.set_cons_zero,List.set_cons_succ,i64_w,i32_w,IntKind.wrap_u8]
         rfl
        refine pure_ (i:=6) (N:=some 23) (v:=?_) (a':=?_) #[true,true,true,false,true,true,true,false,false,false] rfl rfl (any_of HT_.out (by kernel_rfl)) (fun _ _ _ h => h) (Or.inl ⟨by rfl,?_⟩) ?_ ?_
        rotate_left
        ·intro w'
         go_simp
         with_reducible rfl
        rotate_left
        ·simp only [Act.put,List.setIfInBounds_toArray,List.set_cons_zero,List.set_cons_succ,i64_w,i32_w,IntKind.wrap_u8]
         rfl
        refine take_ (i:=3) (N:=some 20) (v:=?_) (a':=?_) #[true,true,true,true,true,true,true,false,false,false] rfl rfl (take_ofW HT_.out HW_.out (by kernel_rfl)) (fun _ _ _ h => h) (Or.inl ⟨by rfl,?_⟩) hHeld ?_ ?_
        rotate_left
        ·rintro w' ⟨s0,s1,s2,s3,s4,s5,s6,s7⟩
         go_simp
         with_reducible rfl
        rotate_left
        ·simp only [Act.put,List.setIfInBounds_toArray,List.set_cons_zero,List.set_cons_succ,i64_w,i32_w,IntKind.wrap_u8]
         rfl
        refine take_ (i:=7) (N:=some 24) (v:=?_) (a':=?_) #[true,true,true,true,true,true,true,true,false,false] rfl rfl (take_ofW HT_.out HW_.out (by kernel_rfl)) (fun _ _ _ h => h) (Or.inl ⟨by rfl,?_⟩) hHeld ?_ ?_
        rotate_left
        ·rintro w' ⟨s0,s1,s2,s3,s4,s5,s6,s7⟩
         go_simp
         with_reducible rfl
        rotate_left
        ·simp only [Act.put,List.setIfInBounds_toArray,List.set_cons_zero,List.set_cons_succ,i64_w,i32_w,IntKind.wrap_u8]
         rfl
        refine one_ (i:=8) (N:=some 25) #[true,true,true,true,true,true,true,true,true,false] rfl rfl (one_of HT_.out (by kernel_rfl)) (by decide) (fun K hK => ?_)
        refine goes_ Tryd.func63 (by kernel_rfl) rfl #[.agg #[.int .i64 ((rd_T70 l0 x5_1).f0),.int .i64 ((rd_T70 l0 x5_1).f1),.string ((rd_T70 l0 x5_1).f2),.slice A240_3 ((rd_T70 l0 x5_1).f3).length c240_3],.agg #[.int .i64 ((rd_T70 l1 x5_1).f0),.int .i64 ((rd_T70 l1 x5_1).f1),.string ((rd_T70 l1 x5_1).f2),.slice A241_3 ((rd_T70 l1 x5_1).f3).length c241_3]] (by rfl) rfl rfl (by (try simp only [List.map_toArray,List.map_cons,List.map_nil]);first|done|rfl|(simp only [List.length_drop,List.length_take];rfl)) ?_
        with_reducible refine (laws_eqExNode.calls k1 ((rd_T70 l0 x5_1).f0) ((rd_T70 l0 x5_1).f1) ((rd_T70 l0 x5_1).f2) _ _ ((rd_T70 l0 x5_1).f3) ((rd_T70 l1 x5_1).f0) ((rd_T70 l1 x5_1).f1) ((rd_T70 l1 x5_1).f2) _ _ ((rd_T70 l1 x5_1).f3) false _ ?side1 ?side2 ?side3 ?side4 A7.out).mono ?_
        (case side1 => repeat (first|exact (Kd.C_below HR240_3.out HB.out)|(with_reducible refine Kd.C_alloc ?_ _)|(with_reducible refine Kd.C_drewN ?_ _)|(with_reducible refine Kd.C_drew ?_)))
        (case side2 => exact HC240_3.out)
        (case side3 => repeat (first|exact (Kd.C_below HR241_3.out HB.out)|(with_reducible refine Kd.C_alloc ?_ _)|(with_reducible refine Kd.C_drewN ?_ _)|(with_reducible refine Kd.C_drew ?_)))
        (case side4 => exact HC241_3.out)
        rintro e w12 ⟨rfl,hb⟩
        refine ⟨_,rfl,?_⟩
        have n0_:=zm_ (below_step (by repeat (first|(with_reducible first|exact HB.out|apply za_|apply zn_|apply zd_)|exact HB.out)) hb)
        clear HB
        have HB:=n0_
        clear n0_
        (try clear hb)
        (try clear hb2)
        (try clear hk)
        (try clear hi)
        refine hK.out _ _ ⟨((HB.out.cell (zb_ w _ hw240_0)).trans hw240_0),((HB.out.cell (zb_ w _ hw240_1)).trans hw240_1),((HB.out.cell (zb_ w _ hw240_2)).trans hw240_2),((HB.out.cell (zb_ w _ hw240_3)).trans hw240_3),((HB.out.cell (zb_ w _ hw241_0)).trans hw241_0),((HB.out.cell (zb_ w _ hw241_1)).trans hw241_1),((HB.out.cell (zb_ w _ hw241_2)).trans hw241_2),((HB.out.cell (zb_ w _ hw241_3)).trans hw241_3)⟩ (fun hHeld => ?_)
        clear hK K
        refine norm_ (a':=?_) ?_ ?_
        rotate_left
        ·show Act.put _ (some 25) _ = _
         simp only [Act.put,List.setIfInBounds_toArray,List.set_cons_zero,List.set_cons_succ,i64_w,i32_w,IntKind.wrap_u8]
         rfl
        refine pure_ (i:=9) (N:=some 26) (v:=?_) (a':=?_) #[true,true,true,true,true,true,true,true,true,true] rfl rfl (any_of HT_.out (by kernel_rfl)) (fun _ _ _ h => h) (Or.inl ⟨by rfl,?_⟩) ?_ ?_
        rotate_left
        ·intro w'
         go_simp
         with_reducible rfl
        rotate_left
        ·simp only [Act.put,List.setIfInBounds_toArray,List.set_cons_zero,List.set_cons_succ,i64_w,i32_w,IntKind.wrap_u8]
         rfl
        refine done_ (done_of HT_.out (by kernel_rfl)) ?_
        try go_wp2
        go_ret
        exact ⟨by first|rfl|(simp [errW_none,errW_some] <;> rfl)|(simp [*,errW_none,errW_some] <;> rfl),by repeat (first|(with_reducible first|exact HB.out|apply za_|apply zn_|apply zd_)|exact HB.out)⟩
      ·rw [if_neg c6] at H
       exact absurd H (by simp)
     ·rw [if_neg c5] at H
      exact absurd H (by simp)
    ·rw [if_neg c4] at H
     have c4b0 : decide (x5_1 < (l0.length : Int)) = false:=decide_eq_false c4
     clear c4
     obtain rfl:=Option.some.inj H
     go_wp2
     go_ret
     exact ⟨by first|rfl|(simp [errW_none,errW_some] <;> rfl)|(simp [*,errW_none,errW_some] <;> rfl),by repeat (first|(with_reducible first|exact HB.out|apply za_|apply zn_|apply zd_)|exact HB.out)⟩
 ·rw [if_neg c3] at H
  have c3b0 : ((l0.length : Int) == (l1.length : Int)) = false:=beq_eq_false_iff_ne.mpr c3
  have c3b1 : ((l0.length : Int) != (l1.length : Int)) = true:=bne_iff_ne.mpr c3
  have c3b2 : (l0.length == l1.length) = false:=by first|simpa using c3|(simp at c3 ⊢;omega)
  obtain rfl:=Option.some.inj H
  go_enter Tryd.func47,Tryd.ntmps47
  go_wp2
  go_ret
  exact ⟨by first|rfl|(simp [errW_none,errW_some] <;> rfl)|(simp [*,errW_none,errW_some] <;> rfl),by repeat (first|(with_reducible first|exact HB.out|apply za_|apply zn_|apply zd_)|exact HB.out)⟩

def laws_eqExpr.f (k : Nat) (l0_0 : List (S70)) (l1_0 : List (S70)) : Option (Bool):=(laws_eqExNodeS.f k l0_0 l1_0).bind fun t245 => (if t245 = true then (some true) else (some false))
theorem laws_eqExpr.mono : ∀ a0 a1 k,LeO (laws_eqExpr.f k a0 a1) (laws_eqExpr.f (k + 1) a0 a1):=by
 intro a0 a1 k
 unfold laws_eqExpr.f
 repeat' first
   |(with_reducible exact laws_eqExNodeS.mono _ _ _)
   |(with_reducible exact LeO.refl _)
   |(with_reducible exact LeO.none _)
   |(with_reducible refine LeO.ite ?_ ?_)
   |(with_reducible refine LeO.bind ?_ (fun _ => ?_))
set_option maxHeartbeats 8000000 in
set_option maxRecDepth 100000 in
theorem laws_eqExpr.calls (k : Nat) (A0_0 : Option Addr) (c0_0 : Nat) (l0_0 : List (S70)) (A1_0 : Option Addr) (c1_0 : Nat) (l1_0 : List (S70)) (r : Bool) (w : World) (hr0_0 : Kd.C k70 w A0_0 l0_0.length l0_0) (hc0_0 : l0_0.length ≤ c0_0) (hr1_0 : Kd.C k70 w A1_0 l1_0.length l1_0) (hc1_0 : l1_0.length ≤ c1_0) (h : laws_eqExpr.f k l0_0 l1_0 = some r) :
  Calls Tryd.prog 24 #[.agg #[.slice A0_0 l0_0.length c0_0],.agg #[.slice A1_0 l1_0.length c1_0]] w fun e w' => e = .returned (.bool r) ∧ Below w.heap.size w w':=by
 have hu44:=Tryd.underlying44
 have HR0_0:=zm_ hr0_0
 have HC0_0:=zm_ hc0_0
 clear hr0_0 hc0_0
 have HR1_0:=zm_ hr1_0
 have HC1_0:=zm_ hc1_0
 clear hr1_0 hc1_0
 have HB:=zm_ (Below.refl w.heap.size w)
 have H : ((laws_eqExNodeS.f k l0_0 l1_0).bind fun t245 => (if t245 = true then (some true) else (some false))) = some r:=h
 clear h
 replace H:=Option.bind_eq_some_iff.mp H
 obtain ⟨t245,A30,H⟩:=H
 replace H : (if t245 = true then (some true) else (some false)) = some r:=H
 have A3:=zm_ A30
 clear A30
 by_cases c4 : t245 = true
 ·subst c4
  have H1 : (some true) = some r:=by rw [if_pos rfl] at H;exact H
  clear H
  have H:=H1
  clear H1
  obtain rfl:=Option.some.inj H
  go_enter Tryd.func24,Tryd.ntmps24
  go_wp2_with (first|((with_reducible refine gate_dst (N:=2) rfl ?_);refine box_event ?hg (N:=2) ?hd (cs:=#[.slice A0_0 l0_0.length c0_0]) (t:=44) ?hr ?_;(case hd => rfl);(case hg => rfl);(case hr => first|(go_simp;done)|(go_simp;rfl));intro gb243 hg w5 hbox hb;have n0_:=zm_ (below_step (by repeat (first|(with_reducible first|exact HB.out|apply za_|apply zn_|apply zd_)|exact HB.out)) hb);have n1_:=zm_ (hbox);have n2_:=zm_ ((by rw [hg];exact (below_size (by repeat (first|(with_reducible first|exact HB.out|apply za_|apply zn_|apply zd_)|exact HB.out))) : w.heap.size ≤ gb243));have n3_:=zm_ ((by rw [hg];exact (below_size (by repeat (first|(with_reducible first|exact HB.out|apply za_|apply zn_|apply zd_)|exact HB.out))) : w.heap.size ≤ gb243));clear HB;have HB:=n0_;have BK243:=n1_;have GW243:=n2_;have GE243:=n3_;clear n0_ n1_ n2_ n3_;clear hb hbox hg)|((with_reducible refine gate_dst (N:=3) rfl ?_);refine box_event ?hg (N:=3) ?hd (cs:=#[.slice A1_0 l1_0.length c1_0]) (t:=44) ?hr ?_;(case hd => rfl);(case hg => rfl);(case hr => first|(go_simp;done)|(go_simp;rfl));intro gb244 hg w6 hbox hb;have n0_:=zm_ (blk_below (g:=gb243) (o:=.cells #[.slice A0_0 l0_0.length c0_0] 44 (0,0)) (by (with_reducible repeat first|refine zl_ ?_ _|refine zr_ ?_|refine zk_ ?_ _);exact BK243.out) hb);have n1_:=zm_ (below_step (by repeat (first|(with_reducible first|exact HB.out|apply za_|apply zn_|apply zd_|refine zs_ ?_ GE243.out)|exact HB.out)) hb);have n2_:=zm_ (hbox);have n3_:=zm_ ((by rw [hg];exact (below_size (by repeat (first|(with_reducible first|exact HB.out|apply za_|apply zn_|apply zd_|refine zs_ ?_ GE243.out)|exact HB.out))) : w.heap.size ≤ gb244));have n4_:=zm_ ((by rw [hg];exact (below_size (by repeat (first|(with_reducible first|exact HB.out|apply za_|apply zn_|apply zd_|refine zs_ ?_ GE243.out)|exact HB.out))) : w.heap.size ≤ gb244));have n5_:=zm_ ((by rw [hg];exact Nat.ne_of_lt (blk_lt (g:=gb243) (o:=.cells #[.slice A0_0 l0_0.length c0_0] 44 (0,0)) (by (with_reducible repeat first|refine zl_ ?_ _|refine zr_ ?_|refine zk_ ?_ _);exact BK243.out)) : gb243 ≠ gb244));have n6_:=zm_ ((by rw [hg];exact Nat.ne_of_gt (blk_lt (g:=gb243) (o:=.cells #[.slice A0_0 l0_0.length c0_0] 44 (0,0)) (by (with_reducible repeat first|refine zl_ ?_ _|refine zr_ ?_|refine zk_ ?_ _);exact BK243.out)) : gb244 ≠ gb243));clear BK243;clear HB;have BK243:=n0_;have HB:=n1_;have BK244:=n2_;have GW244:=n3_;have GE244:=n4_;have NB243_244:=n5_;have NB244_243:=n6_;clear n0_ n1_ n2_ n3_ n4_ n5_ n6_;clear hb hbox hg;have hnb7:=NB243_244.out;have hnc7:=NB244_243.out;have hcz8_0 : w6.cell? ⟨gb243,0,none⟩ = some (.slice A0_0 l0_0.length c0_0):=(zc_ BK243.out 0).trans rfl;have hfz8_0:=zf_ BK243.out 0;have hcz9_0 : w6.cell? ⟨gb244,0,none⟩ = some (.slice A1_0 l1_0.length c1_0):=(zc_ BK244.out 0).trans rfl;have hfz9_0:=zf_ BK244.out 0)|((with_reducible refine gate_callee (f:=47) rfl ?_);refine goesL_ (some 9) rfl rfl Tryd.func47 (by kernel_rfl) rfl #[.slice A0_0 l0_0.length c0_0,.slice A1_0 l1_0.length c1_0] rfl (by (try simp only [List.map_toArray,List.map_cons,List.map_nil]);first|done|rfl|(simp only [List.length_drop,List.length_take];rfl)) ?_;(with_reducible refine (laws_eqExNodeS.calls k _ _ l0_0 _ _ l1_0 true _ ?side1 ?side2 ?side3 ?side4 A3.out).mono ?_);(case side1 => repeat (first|exact (Kd.C_below HR0_0.out HB.out)|(with_reducible refine Kd.C_alloc ?_ _)|(with_reducible refine Kd.C_drewN ?_ _)|(with_reducible refine Kd.C_drew ?_)));(case side2 => exact HC0_0.out);(case side3 => repeat (first|exact (Kd.C_below HR1_0.out HB.out)|(with_reducible refine Kd.C_alloc ?_ _)|(with_reducible refine Kd.C_drewN ?_ _)|(with_reducible refine Kd.C_drew ?_)));(case side4 => exact HC1_0.out);rintro e w10 ⟨rfl,hb⟩;refine ⟨_,rfl,?_⟩;have n0_:=zm_ (blk_below (g:=gb243) (o:=.cells #[.slice A0_0 l0_0.length c0_0] 44 (0,0)) (by (with_reducible repeat first|refine zl_ ?_ _|refine zr_ ?_|refine zk_ ?_ _);exact BK243.out) hb);have n1_:=zm_ (blk_below (g:=gb244) (o:=.cells #[.slice A1_0 l1_0.length c1_0] 44 (0,0)) (by (with_reducible repeat first|refine zl_ ?_ _|refine zr_ ?_|refine zk_ ?_ _);exact BK244.out) hb);have n2_:=zm_ (below_step (by repeat (first|(with_reducible first|exact HB.out|apply za_|apply zn_|apply zd_|refine zs_ ?_ GE243.out|refine zs_ ?_ GE244.out)|exact HB.out)) hb);clear BK243;clear BK244;clear HB;have BK243:=n0_;have BK244:=n1_;have HB:=n2_;clear n0_ n1_ n2_;(try clear hb);(try clear hb2);(try clear hk);(try clear hi)))
  go_ret
  exact ⟨by first|rfl|(simp [errW_none,errW_some] <;> rfl)|(simp [*,errW_none,errW_some] <;> rfl),by repeat (first|(with_reducible first|exact HB.out|apply za_|apply zn_|apply zd_|refine zs_ ?_ GE243.out|refine zs_ ?_ GE244.out)|exact HB.out)⟩
 ·replace c4:=Bool.eq_false_iff.mpr c4
  subst c4
  have H1 : (some false) = some r:=by rw [if_neg (show ¬ (false = true) by decide)] at H;exact H
  clear H
  have H:=H1
  clear H1
  obtain rfl:=Option.some.inj H
  go_enter Tryd.func24,Tryd.ntmps24
  go_wp2_with (first|((with_reducible refine gate_dst (N:=2) rfl ?_);refine box_event ?hg (N:=2) ?hd (cs:=#[.slice A0_0 l0_0.length c0_0]) (t:=44) ?hr ?_;(case hd => rfl);(case hg => rfl);(case hr => first|(go_simp;done)|(go_simp;rfl));intro gb243 hg w11 hbox hb;have n0_:=zm_ (below_step (by repeat (first|(with_reducible first|exact HB.out|apply za_|apply zn_|apply zd_)|exact HB.out)) hb);have n1_:=zm_ (hbox);have n2_:=zm_ ((by rw [hg];exact (below_size (by repeat (first|(with_reducible first|exact HB.out|apply za_|apply zn_|apply zd_)|exact HB.out))) : w.heap.size ≤ gb243));have n3_:=zm_ ((by rw [hg];exact (below_size (by repeat (first|(with_reducible first|exact HB.out|apply za_|apply zn_|apply zd_)|exact HB.out))) : w.heap.size ≤ gb243));clear HB;have HB:=n0_;have BK243:=n1_;have GW243:=n2_;have GE243:=n3_;clear n0_ n1_ n2_ n3_;clear hb hbox hg)|((with_reducible refine gate_dst (N:=3) rfl ?_);refine box_event ?hg (N:=3) ?hd (cs:=#[.slice A1_0 l1_0.length c1_0]) (t:=44) ?hr ?_;(case hd => rfl);(case hg => rfl);(case hr => first|(go_simp;done)|(go_simp;rfl));intro gb244 hg w12 hbox hb;have n0_:=zm_ (blk_below (g:=gb243) (o:=.cells #[.slice A0_0 l0_0.length c0_0] 44 (0,0)) (by (with_reducible repeat first|refine zl_ ?_ _|refine zr_ ?_|refine zk_ ?_ _);exact BK243.out) hb);have n1_:=zm_ (below_step (by repeat (first|(with_reducible first|exact HB.out|apply za_|apply zn_|apply zd_|refine zs_ ?_ GE243.out)|exact HB.out)) hb);have n2_:=zm_ (hbox);have n3_:=zm_ ((by rw [hg];exact (below_size (by repeat (first|(with_reducible first|exact HB.out|apply za_|apply zn_|apply zd_|refine zs_ ?_ GE243.out)|exact HB.out))) : w.heap.size ≤ gb244));have n4_:=zm_ ((by rw [hg];exact (below_size (by repeat (first|(with_reducible first|exact HB.out|apply za_|apply zn_|apply zd_|refine zs_ ?_ GE243.out)|exact HB.out))) : w.heap.size ≤ gb244));have n5_:=zm_ ((by rw [hg];exact Nat.ne_of_lt (blk_lt (g:=gb243) (o:=.cells #[.slice A0_0 l0_0.length c0_0] 44 (0,0)) (by (with_reducible repeat first|refine zl_ ?_ _|refine zr_ ?_|refine zk_ ?_ _);exact BK243.out)) : gb243 ≠ gb244));have n6_:=zm_ ((by rw [hg];exact Nat.ne_of_gt (blk_lt (g:=gb243) (o:=.cells #[.slice A0_0 l0_0.length c0_0] 44 (0,0)) (by (with_reducible repeat first|refine zl_ ?_ _|refine zr_ ?_|refine zk_ ?_ _);exact BK243.out)) : gb244 ≠ gb243));clear BK243;clear HB;have BK243:=n0_;have HB:=n1_;have BK244:=n2_;have GW244:=n3_;have GE244:=n4_;have NB243_244:=n5_;have NB244_243:=n6_;clear n0_ n1_ n2_ n3_ n4_ n5_ n6_;clear hb hbox hg;have hnb13:=NB243_244.out;have hnc13:=NB244_243.out;have hcz14_0 : w12.cell? ⟨gb243,0,none⟩ = some (.slice A0_0 l0_0.length c0_0):=(zc_ BK243.out 0).trans rfl;have hfz14_0:=zf_ BK243.out 0;have hcz15_0 : w12.cell? ⟨gb244,0,none⟩ = some (.slice A1_0 l1_0.length c1_0):=(zc_ BK244.out 0).trans rfl;have hfz15_0:=zf_ BK244.out 0)|((with_reducible refine gate_callee (f:=47) rfl ?_);refine goesL_ (some 9) rfl rfl Tryd.func47 (by kernel_rfl) rfl #[.slice A0_0 l0_0.length c0_0,.slice A1_0 l1_0.length c1_0] rfl (by (try simp only [List.map_toArray,List.map_cons,List.map_nil]);first|done|rfl|(simp only [List.length_drop,List.length_take];rfl)) ?_;(with_reducible refine (laws_eqExNodeS.calls k _ _ l0_0 _ _ l1_0 false _ ?side1 ?side2 ?side3 ?side4 A3.out).mono ?_);(case side1 => repeat (first|exact (Kd.C_below HR0_0.out HB.out)|(with_reducible refine Kd.C_alloc ?_ _)|(with_reducible refine Kd.C_drewN ?_ _)|(with_reducible refine Kd.C_drew ?_)));(case side2 => exact HC0_0.out);(case side3 => repeat (first|exact (Kd.C_below HR1_0.out HB.out)|(with_reducible refine Kd.C_alloc ?_ _)|(with_reducible refine Kd.C_drewN ?_ _)|(with_reducible refine Kd.C_drew ?_)));(case side4 => exact HC1_0.out);rintro e w16 ⟨rfl,hb⟩;refine ⟨_,rfl,?_⟩;have n0_:=zm_ (blk_below (g:=gb243) (o:=.cells #[.slice A0_0 l0_0.length c0_0] 44 (0,0)) (by (with_reducible repeat first|refine zl_ ?_ _|refine zr_ ?_|refine zk_ ?_ _);exact BK243.out) hb);have n1_:=zm_ (blk_below (g:=gb244) (o:=.cells #[.slice A1_0 l1_0.length c1_0] 44 (0,0)) (by (with_reducible repeat first|refine zl_ ?_ _|refine zr_ ?_|refine zk_ ?_ _);exact BK244.out) hb);have n2_:=zm_ (below_step (by repeat (first|(with_reducible first|exact HB.out|apply za_|apply zn_|apply zd_|refine zs_ ?_ GE243.out|refine zs_ ?_ GE244.out)|exact HB.out)) hb);clear BK243;clear BK244;clear HB;have BK243:=n0_;have BK244:=n1_;have HB:=n2_;clear n0_ n1_ n2_;(try clear hb);(try clear hb2);(try clear hk);(try clear hi)))
  go_ret
  exact ⟨by first|rfl|(simp [errW_none,errW_some] <;> rfl)|(simp [*,errW_none,errW_some] <;> rfl),by repeat (first|(with_reducible first|exact HB.out|apply za_|apply zn_|apply zd_|refine zs_ ?_ GE243.out|refine zs_ ?_ GE244.out)|exact HB.out)⟩

def laws_FnExactShowExpr.f (k : Nat) (l0_0 : List (S87)) : Option (Bool):=(laws_szExpr.f k l0_0 1048576).bind fun t247 => (if t247 < 0 then (some true) else ((laws_toExpr.f k l0_0).bind fun t248 => ((spec_ShowExpr.f k t248).bind fun t251 => ((laws_toExpr.f k l0_0).bind fun t252 => ((impl_ShowExpr.f k t252).bind fun t256 => (if t256.toList = t251.toList then ((laws_toExpr.f k l0_0).bind fun t257 => ((laws_eqExpr.f k t252 t257).bind fun t260 => (if t260 = true then (some true) else (some false)))) else (some false)))))))
theorem laws_FnExactShowExpr.mono : ∀ a0 k,LeO (laws_FnExactShowExpr.f k a0) (laws_FnExactShowExpr.f (k + 1) a0):=by
 intro a0 k
 unfold laws_FnExactShowExpr.f
 repeat' first
   |(with_reducible exact impl_ShowExpr.mono _ _)
   |(with_reducible exact laws_eqExpr.mono _ _ _)
   |(with_reducible exact laws_szExpr.mono _ _ _)
   |(with_reducible exact laws_toExpr.mono _ _)
   |(with_reducible exact spec_ShowExpr.mono _ _)
   |(with_reducible exact LeO.refl _)
   |(with_reducible exact LeO.none _)
   |(with_reducible refine LeO.ite ?_ ?_)
   |(with_reducible refine LeO.bind ?_ (fun _ => ?_))
set_option maxHeartbeats 8000000 in
set_option maxRecDepth 100000 in
theorem laws_FnExactShowExpr.calls (k : Nat) (A0_0 : Option Addr) (c0_0 : Nat) (l0_0 : List (S87)) (r : Bool) (w : World) (hr0_0 : Kd.C k87 w A0_0 l0_0.length l0_0) (hc0_0 : l0_0.length ≤ c0_0) (htab_ : Tb w) (h : laws_FnExactShowExpr.f k l0_0 = some r) :
  Calls Tryd.prog 6 #[.agg #[.slice A0_0 l0_0.length c0_0]] w fun e w' => e = .returned (.bool r) ∧ Below w.heap.size w w':=by
 have HTAB:=zm_ htab_
 clear htab_
 have hu39:=Tryd.underlying39
 have hu44:=Tryd.underlying44
 have HR0_0:=zm_ hr0_0
 have HC0_0:=zm_ hc0_0
 clear hr0_0 hc0_0
 have HB:=zm_ (Below.refl w.heap.size w)
 have H : ((laws_szExpr.f k l0_0 1048576).bind fun t247 => (if t247 < 0 then (some true) else ((laws_toExpr.f k l0_0).bind fun t248 => ((spec_ShowExpr.f k t248).bind fun t251 => ((laws_toExpr.f k l0_0).bind fun t252 => ((impl_ShowExpr.f k t252).bind fun t256 => (if t256.toList = t251.toList then ((laws_toExpr.f k l0_0).bind fun t257 => ((laws_eqExpr.f k t252 t257).bind fun t260 => (if t260 = true then (some true) else (some false)))) else (some false)))))))) = some r:=h
 clear h
 replace H:=Option.bind_eq_some_iff.mp H
 obtain ⟨t247,A20,H⟩:=H
 replace H : (if t247 < 0 then (some true) else ((laws_toExpr.f k l0_0).bind fun t248 => ((spec_ShowExpr.f k t248).bind fun t251 => ((laws_toExpr.f k l0_0).bind fun t252 => ((impl_ShowExpr.f k t252).bind fun t256 => (if t256.toList = t251.toList then ((laws_toExpr.f k l0_0).bind fun t257 => ((laws_eqExpr.f k t252 t257).bind fun t260 => (if t260 = true then (some true) else (some false)))) else (some false))))))) = some r:=H
 have A2:=zm_ A20
 clear A20
 by_cases c3 : t247 < 0
 ·rw [if_pos c3] at H
  have c3b0 : decide (t247 < 0) = true:=decide_eq_true c3
  clear c3
  obtain rfl:=Option.some.inj H
  go_enter Tryd.func6,Tryd.ntmps6
  go_wp2_with (first|((with_reducible refine gate_dst (N:=1) rfl ?_);refine box_event ?hg (N:=1) ?hd (cs:=#[.slice A0_0 l0_0.length c0_0]) (t:=39) ?hr ?_;(case hd => rfl);(case hg => rfl);(case hr => first|(go_simp;done)|(go_simp;rfl));intro gb246 hg w4 hbox hb;have n0_:=zm_ (below_step (by repeat (first|(with_reducible first|exact HB.out|apply za_|apply zn_|apply zd_)|exact HB.out)) hb);have n1_:=zm_ (hbox);have n2_:=zm_ ((by rw [hg];exact (below_size (by repeat (first|(with_reducible first|exact HB.out|apply za_|apply zn_|apply zd_)|exact HB.out))) : w.heap.size ≤ gb246));have n3_:=zm_ ((by rw [hg];exact (below_size (by repeat (first|(with_reducible first|exact HB.out|apply za_|apply zn_|apply zd_)|exact HB.out))) : w.heap.size ≤ gb246));clear HB;have HB:=n0_;have BK246:=n1_;have GW246:=n2_;have GE246:=n3_;clear n0_ n1_ n2_ n3_;clear hb hbox hg;have hcz5_0 : w4.cell? ⟨gb246,0,none⟩ = some (.slice A0_0 l0_0.length c0_0):=(zc_ BK246.out 0).trans rfl;have hfz5_0:=zf_ BK246.out 0)|((with_reducible refine gate_callee (f:=20) rfl ?_);refine goesL_ (some 9) rfl rfl Tryd.func20 (by kernel_rfl) rfl #[.agg #[.slice A0_0 l0_0.length c0_0],.int .i64 1048576] rfl (by (try simp only [List.map_toArray,List.map_cons,List.map_nil]);first|done|rfl|(simp only [List.length_drop,List.length_take];rfl)) ?_;(with_reducible refine (laws_szExpr.calls k _ _ l0_0 1048576 t247 _ ?side1 ?side2 A2.out).mono ?_);(case side1 => repeat (first|exact (Kd.C_below HR0_0.out HB.out)|(with_reducible refine Kd.C_alloc ?_ _)|(with_reducible refine Kd.C_drewN ?_ _)|(with_reducible refine Kd.C_drew ?_)));(case side2 => exact HC0_0.out);rintro e w6 ⟨rfl,hb⟩;refine ⟨_,rfl,?_⟩;have n0_:=zm_ (blk_below (g:=gb246) (o:=.cells #[.slice A0_0 l0_0.length c0_0] 39 (0,0)) (by (with_reducible repeat first|refine zl_ ?_ _|refine zr_ ?_|refine zk_ ?_ _);exact BK246.out) hb);have n1_:=zm_ (below_step (by repeat (first|(with_reducible first|exact HB.out|apply za_|apply zn_|apply zd_|refine zs_ ?_ GE246.out)|exact HB.out)) hb);clear BK246;clear HB;have BK246:=n0_;have HB:=n1_;clear n0_ n1_;(try clear hb);(try clear hb2);(try clear hk);(try clear hi)))
  go_ret
  exact ⟨by first|rfl|(simp [errW_none,errW_some] <;> rfl)|(simp [*,errW_none,errW_some] <;> rfl),by repeat (first|(with_reducible first|exact HB.out|apply za_|apply zn_|apply zd_|refine zs_ ?_ GE246.out)|exact HB.out)⟩
 ·rw [if_neg c3] at H
  have c3b0 : decide (t247 < 0) = false:=decide_eq_false c3
  clear c3
  replace H:=Option.bind_eq_some_iff.mp H
  obtain ⟨t248,A70,H⟩:=H
  replace H : ((spec_ShowExpr.f k t248).bind fun t251 => ((laws_toExpr.f k l0_0).bind fun t252 => ((impl_ShowExpr.f k t252).bind fun t256 => (if t256.toList = t251.toList then ((laws_toExpr.f k l0_0).bind fun t257 => ((laws_eqExpr.f k t252 t257).bind fun t260 => (if t260 = true then (some true) else (some false)))) else (some false))))) = some r:=H
  have A7:=zm_ A70
  clear A70
  replace H:=Option.bind_eq_some_iff.mp H
  obtain ⟨t251,A80,H⟩:=H
  replace H : ((laws_toExpr.f k l0_0).bind fun t252 => ((impl_ShowExpr.f k t252).bind fun t256 => (if t256.toList = t251.toList then ((laws_toExpr.f k l0_0).bind fun t257 => ((laws_eqExpr.f k t252 t257).bind fun t260 => (if t260 = true then (some true) else (some false)))) else (some false)))) = some r:=H
  have A8:=zm_ A80
  clear A80
  replace H:=Option.bind_eq_some_iff.mp H
  obtain ⟨t252,A90,H⟩:=H
  replace H : ((impl_ShowExpr.f k t252).bind fun t256 => (if t256.toList = t251.toList then ((laws_toExpr.f k l0_0).bind fun t257 => ((laws_eqExpr.f k t252 t257).bind fun t260 => (if t260 = true then (some true) else (some false)))) else (some false))) = some r:=H
  have A9:=zm_ A90
  clear A90
  replace H:=Option.bind_eq_some_iff.mp H
  obtain ⟨t256,A100,H⟩:=H
  replace H : (if t256.toList = t251.toList then ((laws_toExpr.f k l0_0).bind fun t257 => ((laws_eqExpr.f k t252 t257).bind fun t260 => (if t260 = true then (some true) else (some false)))) else (some false)) = some r:=H
  have A10:=zm_ A100
  clear A100
  by_cases c11 : t256.toList = t251.toList
  ·rw [if_pos c11] at H
   have c11b0 : (t256.toList == t251.toList) = true:=beq_iff_eq.mpr c11
   have c11b1 : (t256.toList != t251.toList) = false:=bne_eq_false_iff_eq.mpr c11
   clear c11
   replace H:=Option.bind_eq_some_iff.mp H
   obtain ⟨t257,A120,H⟩:=H
   replace H : ((laws_eqExpr.f k t252 t257).bind fun t260 => (if t260 = true then (some true) else (some false))) = some r:=H
   have A12:=zm_ A120
   clear A120
   replace H:=Option.bind_eq_some_iff.mp H
   obtain ⟨t260,A130,H⟩:=H
   replace H : (if t260 = true then (some true) else (some false)) = some r:=H
   have A13:=zm_ A130
   clear A130
   by_cases c14 : t260 = true
   ·subst c14
    have H1 : (some true) = some r:=by rw [if_pos rfl] at H;exact H
    clear H
    have H:=H1
    clear H1
    obtain rfl:=Option.some.inj H
    go_enter Tryd.func6,Tryd.ntmps6
    try go_wp2_with (first|((with_reducible refine gate_dst (N:=1) rfl ?_);refine box_event ?hg (N:=1) ?hd (cs:=#[.slice A0_0 l0_0.length c0_0]) (t:=39) ?hr ?_;(case hd => rfl);(case hg => rfl);(case hr => first|(go_simp;done)|(go_simp;rfl));intro gb246 hg w15 hbox hb;have n0_:=zm_ (below_step (by repeat (first|(with_reducible first|exact HB.out|apply za_|apply zn_|apply zd_)|exact HB.out)) hb);have n1_:=zm_ (hbox);have n2_:=zm_ ((by rw [hg];exact (below_size (by repeat (first|(with_reducible first|exact HB.out|apply za_|apply zn_|apply zd_)|exact HB.out))) : w.heap.size ≤ gb246));have n3_:=zm_ ((by rw [hg];exact (below_size (by repeat (first|(with_reducible first|exact HB.out|apply za_|apply zn_|apply zd_)|exact HB.out))) : w.heap.size ≤ gb246));clear HB;have HB:=n0_;have BK246:=n1_;have GW246:=n2_;have GE246:=n3_;clear n0_ n1_ n2_ n3_;clear hb hbox hg;have hcz16_0 : w15.cell? ⟨gb246,0,none⟩ = some (.slice A0_0 l0_0.length c0_0):=(zc_ BK246.out 0).trans rfl;have hfz16_0:=zf_ BK246.out 0)|((with_reducible refine gate_callee (f:=20) rfl ?_);refine goesL_ (some 9) rfl rfl Tryd.func20 (by kernel_rfl) rfl #[.agg #[.slice A0_0 l0_0.length c0_0],.int .i64 1048576] rfl (by (try simp only [List.map_toArray,List.map_cons,List.map_nil]);first|done|rfl|(simp only [List.length_drop,List.length_take];rfl)) ?_;(with_reducible refine (laws_szExpr.calls k _ _ l0_0 1048576 t247 _ ?side1 ?side2 A2.out).mono ?_);(case side1 => repeat (first|exact (Kd.C_below HR0_0.out HB.out)|(with_reducible refine Kd.C_alloc ?_ _)|(with_reducible refine Kd.C_drewN ?_ _)|(with_reducible refine Kd.C_drew ?_)));(case side2 => exact HC0_0.out);rintro e w17 ⟨rfl,hb⟩;refine ⟨_,rfl,?_⟩;have n0_:=zm_ (blk_below (g:=gb246) (o:=.cells #[.slice A0_0 l0_0.length c0_0] 39 (0,0)) (by (with_reducible repeat first|refine zl_ ?_ _|refine zr_ ?_|refine zk_ ?_ _);exact BK246.out) hb);have n1_:=zm_ (below_step (by repeat (first|(with_reducible first|exact HB.out|apply za_|apply zn_|apply zd_|refine zs_ ?_ GE246.out)|exact HB.out)) hb);clear BK246;clear HB;have BK246:=n0_;have HB:=n1_;clear n0_ n1_;(try clear hb);(try clear hb2);(try clear hk);(try clear hi);have hcz18_0 : w17.cell? ⟨gb246,0,none⟩ = some (.slice A0_0 l0_0.length c0_0):=(zc_ BK246.out 0).trans rfl;have hfz18_0:=zf_ BK246.out 0)|((with_reducible refine gate_callee (f:=22) rfl ?_);refine goesL_ (some 13) rfl rfl Tryd.func22 (by kernel_rfl) rfl #[.agg #[.slice A0_0 l0_0.length c0_0]] rfl (by (try simp only [List.map_toArray,List.map_cons,List.map_nil]);first|done|rfl|(simp only [List.length_drop,List.length_take];rfl)) ?_;(with_reducible refine (laws_toExpr.calls k _ _ l0_0 t248 _ ?side1 ?side2 A7.out).mono ?_);(case side1 => repeat (first|exact (Kd.C_below HR0_0.out HB.out)|(with_reducible refine Kd.C_alloc ?_ _)|(with_reducible refine Kd.C_drewN ?_ _)|(with_reducible refine Kd.C_drew ?_)));(case side2 => exact HC0_0.out);rintro e w19 ⟨v249,rfl,ho0,hb⟩;refine ⟨_,rfl,?_⟩;have n0_:=zm_ (Kd.S_lower ho0 (below_size (by repeat (first|(with_reducible first|exact HB.out|apply za_|apply zn_|apply zd_|refine zs_ ?_ GE246.out)|exact HB.out))));have n1_:=zm_ (blk_below (g:=gb246) (o:=.cells #[.slice A0_0 l0_0.length c0_0] 39 (0,0)) (by (with_reducible repeat first|refine zl_ ?_ _|refine zr_ ?_|refine zk_ ?_ _);exact BK246.out) hb);have n2_:=zm_ (below_step (by repeat (first|(with_reducible first|exact HB.out|apply za_|apply zn_|apply zd_|refine zs_ ?_ GE246.out)|exact HB.out)) hb);clear BK246;clear HB;have HO250:=n0_;have BK246:=n1_;have HB:=n2_;clear n0_ n1_ n2_;(try clear hb);(try clear hb2);(try clear hk);(try clear hi);(try clear ho0);obtain ⟨Ao20,co20,eo20⟩:=Kd.S_slice HO250.out;subst eo20)|((with_reducible refine gate_callee (f:=21) rfl ?_);refine goesL_ (some 14) rfl rfl Tryd.func21 (by kernel_rfl) rfl #[.agg #[.slice Ao20 t248.length co20]] rfl (by (try simp only [List.map_toArray,List.map_cons,List.map_nil]);first|done|rfl|(simp only [List.length_drop,List.length_take];rfl)) ?_;(with_reducible refine (spec_ShowExpr.calls k _ _ t248 t251 _ ?side1 ?side2 A8.out).mono ?_);(case side1 => repeat (first|exact (Kd.S_reads' HO250.out).2.2|(with_reducible refine Kd.C_alloc ?_ _)|(with_reducible refine Kd.C_drewN ?_ _)|(with_reducible refine Kd.C_drew ?_)));(case side2 => exact (Kd.S_reads' HO250.out).2.1);rintro e w21 ⟨rfl,hb⟩;refine ⟨_,rfl,?_⟩;have n0_:=zm_ (Kd.S_below (by (with_reducible repeat (first|apply Kd.S_alloc|apply Kd.S_drewN|apply Kd.S_drew));exact HO250.out) hb);have n1_:=zm_ (blk_below (g:=gb246) (o:=.cells #[.slice A0_0 l0_0.length c0_0] 39 (0,0)) (by (with_reducible repeat first|refine zl_ ?_ _|refine zr_ ?_|refine zk_ ?_ _);exact BK246.out) hb);have n2_:=zm_ (below_step (by repeat (first|(with_reducible first|exact HB.out|apply za_|apply zn_|apply zd_|refine zs_ ?_ GE246.out)|exact HB.out)) hb);clear HO250;clear BK246;clear HB;have HO250:=n0_;have BK246:=n1_;have HB:=n2_;clear n0_ n1_ n2_;(try clear hb);(try clear hb2);(try clear hk);(try clear hi);have hcz22_0 : w21.cell? ⟨gb246,0,none⟩ = some (.slice A0_0 l0_0.length c0_0):=(zc_ BK246.out 0).trans rfl;have hfz22_0:=zf_ BK246.out 0)|((with_reducible refine gate_callee (f:=22) rfl ?_);refine goesL_ (some 16) rfl rfl Tryd.func22 (by kernel_rfl) rfl #[.agg #[.slice A0_0 l0_0.length c0_0]] rfl (by (try simp only [List.map_toArray,List.map_cons,List.map_nil]);first|done|rfl|(simp only [List.length_drop,List.length_take];rfl)) ?_;(with_reducible refine (laws_toExpr.calls k _ _ l0_0 t252 _ ?side1 ?side2 A9.out).mono ?_);(case side1 => repeat (first|exact (Kd.C_below HR0_0.out HB.out)|(with_reducible refine Kd.C_alloc ?_ _)|(with_reducible refine Kd.C_drewN ?_ _)|(with_reducible refine Kd.C_drew ?_)));(case side2 => exact HC0_0.out);rintro e w23 ⟨v253,rfl,ho0,hb⟩;refine ⟨_,rfl,?_⟩;have n0_:=zm_ (Kd.S_elder' (by (with_reducible repeat (first|apply Kd.S_alloc|apply Kd.S_drewN|apply Kd.S_drew));exact HO250.out) (Kd.S_base ho0) hb);have n1_:=zm_ (Kd.S_lower (Kd.S_new' ho0 (Kd.S_lt (by (with_reducible repeat (first|apply Kd.S_alloc|apply Kd.S_drewN|apply Kd.S_drew));exact HO250.out))) (below_size (by repeat (first|(with_reducible first|exact HB.out|apply za_|apply zn_|apply zd_|refine zs_ ?_ GE246.out)|exact HB.out))));have n2_:=zm_ (blk_below (g:=gb246) (o:=.cells #[.slice A0_0 l0_0.length c0_0] 39 (0,0)) (by (with_reducible repeat first|refine zl_ ?_ _|refine zr_ ?_|refine zk_ ?_ _);exact BK246.out) hb);have n3_:=zm_ (below_step (by repeat (first|(with_reducible first|exact HB.out|apply za_|apply zn_|apply zd_|refine zs_ ?_ GE246.out)|exact HB.out)) hb);clear HO250;clear BK246;clear HB;have HO250:=n0_;have HO254:=n1_;have BK246:=n2_;have HB:=n3_;clear n0_ n1_ n2_ n3_;(try clear hb);(try clear hb2);(try clear hk);(try clear hi);(try clear ho0))|((with_reducible refine gate_dst (N:=5) rfl ?_);refine box_event ?hg (N:=5) ?hd (cs:=#[.slice none 0 0]) (t:=44) ?hr ?_;(case hd => rfl);(case hg => rfl);(case hr => first|(go_simp;done)|(go_simp;rfl));intro gb255 hg w24 hbox hb;have n0_:=zm_ (Kd.S_below (by (with_reducible repeat (first|apply Kd.S_alloc|apply Kd.S_drewN|apply Kd.S_drew));exact HO250.out) hb);have n1_:=zm_ (Kd.S_below (by (with_reducible repeat (first|apply Kd.S_alloc|apply Kd.S_drewN|apply Kd.S_drew));exact HO254.out) hb);have n2_:=zm_ (blk_below (g:=gb246) (o:=.cells #[.slice A0_0 l0_0.length c0_0] 39 (0,0)) (by (with_reducible repeat first|refine zl_ ?_ _|refine zr_ ?_|refine zk_ ?_ _);exact BK246.out) hb);have n3_:=zm_ (below_step (by repeat (first|(with_reducible first|exact HB.out|apply za_|apply zn_|apply zd_|refine zs_ ?_ GE246.out)|exact HB.out)) hb);have n4_:=zm_ (hbox);have n5_:=zm_ ((by rw [hg];exact (below_size (by repeat (first|(with_reducible first|exact HB.out|apply za_|apply zn_|apply zd_|refine zs_ ?_ GE246.out)|exact HB.out))) : w.heap.size ≤ gb255));have n6_:=zm_ ((by rw [hg];exact (below_size (by repeat (first|(with_reducible first|exact HB.out|apply za_|apply zn_|apply zd_|refine zs_ ?_ GE246.out)|exact HB.out))) : w.heap.size ≤ gb255));have n7_:=zm_ ((by rw [hg];exact Nat.ne_of_lt (blk_lt (g:=gb246) (o:=.cells #[.slice A0_0 l0_0.length c0_0] 39 (0,0)) (by (with_reducible repeat first|refine zl_ ?_ _|refine zr_ ?_|refine zk_ ?_ _);exact BK246.out)) : gb246 ≠ gb255));have n8_:=zm_ ((by rw [hg];exact Nat.ne_of_gt (blk_lt (g:=gb246) (o:=.cells #[.slice A0_0 l0_0.length c0_0] 39 (0,0)) (by (with_reducible repeat first|refine zl_ ?_ _|refine zr_ ?_|refine zk_ ?_ _);exact BK246.out)) : gb255 ≠ gb246));clear HO250;clear HO254;clear BK246;clear HB;have HO250:=n0_;have HO254:=n1_;have BK246:=n2_;have HB:=n3_;have BK255:=n4_;have GW255:=n5_;have GE255:=n6_;have NB246_255:=n7_;have NB255_246:=n8_;clear n0_ n1_ n2_ n3_ n4_ n5_ n6_ n7_ n8_;clear hb hbox hg;obtain ⟨Ao25,co25,eo25⟩:=Kd.S_slice HO254.out;subst eo25;have hnb26:=NB255_246.out;have hnc26:=NB246_255.out;have hcz27_0 : w24.cell? ⟨gb255,0,none⟩ = some (.slice none 0 0):=(zc_ BK255.out 0).trans rfl;have hfz27_0:=zf_ BK255.out 0)|((with_reducible refine gate_callee (f:=23) rfl ?_);refine goesL_ (some 18) rfl rfl Tryd.func23 (by kernel_rfl) rfl #[.agg #[.slice Ao25 t252.length co25]] rfl (by (try simp only [List.map_toArray,List.map_cons,List.map_nil]);first|done|rfl|(simp only [List.length_drop,List.length_take];rfl)) ?_;(with_reducible refine (impl_ShowExpr.calls k _ _ t252 t256 _ ?side1 ?side2 (Tb.below HTAB.out (by repeat (first|(with_reducible first|exact HB.out|apply za_|apply zn_|apply zd_|refine zs_ ?_ GE246.out|refine zs_ ?_ GE255.out)|exact HB.out))) A10.out).mono ?_);(case side1 => refine (Kd.S_reads' (e:=70) (base:=w.heap.size) (ok:=fun k_ => (True ∧ some k_ ≠ (.slice Ao20 t248.length co20 : Value).ownBlock)) (n:=t252.length) (c:=co25) ?_).2.2;exact (by (with_reducible repeat (first|apply Kd.S_alloc|apply Kd.S_drewN|apply Kd.S_drew));exact (Kd.S_mono (Kd.S_far (p:=⟨gb255,0,none⟩) (Kd.S_types HO254.out BK255.out (by decide)) (fun _ hk => hk.2) (.slice Ao25 t252.length co25)) (fun _ h_ => h_.1))));(case side2 => exact (Kd.S_reads' HO254.out).2.1);rintro e w28 ⟨rfl,hb⟩;refine ⟨_,rfl,?_⟩;have n0_:=zm_ (Kd.S_below (by (with_reducible repeat (first|apply Kd.S_alloc|apply Kd.S_drewN|apply Kd.S_drew));exact (Kd.S_mono (Kd.S_far (p:=⟨gb255,0,none⟩) (Kd.S_types HO250.out BK255.out (by decide)) (fun _ hk => hk.2) (.slice Ao25 t252.length co25)) (fun _ h_ => h_.1))) hb);have n1_:=zm_ (Kd.S_below (by (with_reducible repeat (first|apply Kd.S_alloc|apply Kd.S_drewN|apply Kd.S_drew));exact (Kd.S_mono (Kd.S_far (p:=⟨gb255,0,none⟩) (Kd.S_types HO254.out BK255.out (by decide)) (fun _ hk => hk.2) (.slice Ao25 t252.length co25)) (fun _ h_ => h_.1))) hb);have n2_:=zm_ (blk_below (g:=gb246) (o:=.cells #[.slice A0_0 l0_0.length c0_0] 39 (0,0)) (by (with_reducible repeat first|refine zl_ ?_ _|refine zr_ ?_|refine zk_ ?_ _);refine blk_far ?_ NB246_255.out _;(with_reducible repeat first|refine zl_ ?_ _|refine zr_ ?_|refine zk_ ?_ _);exact BK246.out) hb);have n3_:=zm_ (blk_below (g:=gb255) (o:=.cells #[.slice Ao25 t252.length co25] 44 (0,0)) (by (with_reducible repeat first|refine zl_ ?_ _|refine zr_ ?_|refine zk_ ?_ _);refine blk_put (cs:=#[.slice none 0 0]) ?_ 0 _ rfl;(with_reducible repeat first|refine zl_ ?_ _|refine zr_ ?_|refine zk_ ?_ _);exact BK255.out) hb);have n4_:=zm_ (below_step (by repeat (first|(with_reducible first|exact HB.out|apply za_|apply zn_|apply zd_|refine zs_ ?_ GE246.out|refine zs_ ?_ GE255.out)|exact HB.out)) hb);clear HO250;clear HO254;clear BK246;clear BK255;clear HB;have HO250:=n0_;have HO254:=n1_;have BK246:=n2_;have BK255:=n3_;have HB:=n4_;clear n0_ n1_ n2_ n3_ n4_;(try clear hb);(try clear hb2);(try clear hk);(try clear hi)))
    have n0_:=zm_ (Kd.S_drew HO250.out)
    have n1_:=zm_ (Kd.S_drew HO254.out)
    have n2_:=zm_ (zr_ BK246.out)
    have n3_:=zm_ (zr_ BK255.out)
    have n4_:=zm_ (zd_ HB.out)
    clear HO250
    clear HO254
    clear BK246
    clear BK255
    clear HB
    have HO250:=n0_
    have HO254:=n1_
    have BK246:=n2_
    have BK255:=n3_
    have HB:=n4_
    clear n0_ n1_ n2_ n3_ n4_
    refine start_ (n:=5) (S:=fun w' => w'.cell? ⟨gb255,0,none⟩ = some (.slice Ao25 t252.length co25) ∧ w'.cell? ⟨gb246,0,none⟩ = some (.slice A0_0 l0_0.length c0_0)) (ds:=[]) #[false,false,false,false,false] (by kernel_rfl) rfl rfl ⟨(zc_ BK255.out 0).trans rfl,(zc_ BK246.out 0).trans rfl⟩ (fun hHeld => ?_)
    generalize w28.drew = w29 at HO250 HO254 BK246 BK255 HB hHeld ⊢
    refine take_ (i:=0) (N:=some 22) (v:=?_) (a':=?_) #[true,false,false,false,false] rfl rfl (by kernel_rfl) (fun _ _ _ h => h) (Or.inl ⟨by rfl,?_⟩) hHeld ?_ ?_
    rotate_left
    ·rintro w' ⟨s0,s1⟩
     go_simp
     with_reducible rfl
    rotate_left
    ·simp only [Act.put,List.setIfInBounds_toArray,List.set_cons_zero,List.set_cons_succ,i64_w,i32_w,IntKind.wrap_u8]
     rfl
    refine take_ (i:=1) (N:=some 23) (v:=?_) (a':=?_) #[true,true,false,false,false] rfl rfl (by kernel_rfl) (fun _ _ _ h => h) (Or.inl ⟨by rfl,?_⟩) hHeld ?_ ?_
    rotate_left
    ·rintro w' ⟨s0,s1⟩
     go_simp
     with_reducible rfl
    rotate_left
    ·simp only [Act.put,List.setIfInBounds_toArray,List.set_cons_zero,List.set_cons_succ,i64_w,i32_w,IntKind.wrap_u8]
     rfl
    refine one_ (i:=2) (N:=some 24) #[true,true,true,false,false] rfl rfl (by kernel_rfl) (by decide) (fun K hK => ?_)
    refine goes_ Tryd.func22 (by kernel_rfl) rfl #[.agg #[.slice A0_0 l0_0.length c0_0]] (by rfl) rfl rfl (by (try simp only [List.map_toArray,List.map_cons,List.map_nil]);first|done|rfl|(simp only [List.length_drop,List.length_take];rfl)) ?_
    with_reducible refine (laws_toExpr.calls k _ _ l0_0 t257 _ ?side1 ?side2 A12.out).mono ?_
    (case side1 => repeat (first|exact (Kd.C_below HR0_0.out HB.out)|(with_reducible refine Kd.C_alloc ?_ _)|(with_reducible refine Kd.C_drewN ?_ _)|(with_reducible refine Kd.C_drew ?_)))
    (case side2 => exact HC0_0.out)
    rintro e w30 ⟨v258,rfl,ho0,hb⟩
    refine ⟨_,rfl,?_⟩
    have n0_:=zm_ (Kd.S_elder' (by (with_reducible repeat (first|apply Kd.S_alloc|apply Kd.S_drewN|apply Kd.S_drew));exact HO250.out) (Kd.S_base ho0) hb)
    have n1_:=zm_ (Kd.S_elder' (by (with_reducible repeat (first|apply Kd.S_alloc|apply Kd.S_drewN|apply Kd.S_drew));exact HO254.out) (Kd.S_base ho0) hb)
    have n2_:=zm_ (Kd.S_lower (Kd.S_new' (Kd.S_new' ho0 (Kd.S_lt (by (with_reducible repeat (first|apply Kd.S_alloc|apply Kd.S_drewN|apply Kd.S_drew));exact HO250.out))) (Kd.S_lt (by (with_reducible repeat (first|apply Kd.S_alloc|apply Kd.S_drewN|apply Kd.S_drew));exact HO254.out))) (below_size (by repeat (first|(with_reducible first|exact HB.out|apply za_|apply zn_|apply zd_|refine zs_ ?_ GE246.out|refine zs_ ?_ GE255.out)|exact HB.out))))
    have n3_:=zm_ (blk_below (g:=gb246) (o:=.cells #[.slice A0_0 l0_0.length c0_0] 39 (0,0)) (by (with_reducible repeat first|refine zl_ ?_ _|refine zr_ ?_|refine zk_ ?_ _);exact BK246.out) hb)
    have n4_:=zm_ (blk_below (g:=gb255) (o:=.cells #[.slice Ao25 t252.length co25] 44 (0,0)) (by (with_reducible repeat first|refine zl_ ?_ _|refine zr_ ?_|refine zk_ ?_ _);exact BK255.out) hb)
    have n5_:=zm_ (below_step (by repeat (first|(with_reducible first|exact HB.out|apply za_|apply zn_|apply zd_|refine zs_ ?_ GE246.out|refine zs_ ?_ GE255.out)|exact HB.out)) hb)
    clear HO250
    clear HO254
    clear BK246
    clear BK255
    clear HB
    have HO250:=n0_
    have HO254:=n1_
    have HO259:=n2_
    have BK246:=n3_
    have BK255:=n4_
    have HB:=n5_
    clear n0_ n1_ n2_ n3_ n4_ n5_
    (try clear hb)
    (try clear hb2)
    (try clear hk)
    (try clear hi)
    (try clear ho0)
    obtain ⟨Ao31,co31,eo31⟩:=Kd.S_slice HO259.out
    (first|subst eo31|(injection eo31 with f1_ f2_ f3_;have f4_:=f1_.symm;have f5_:=f3_.symm;clear f1_ f2_ f3_;subst f4_;subst f5_))
    refine hK.out _ _ ⟨(zc_ BK255.out 0).trans rfl,(zc_ BK246.out 0).trans rfl⟩ (fun hHeld => ?_)
    clear hK K
    refine norm_ (a':=?_) ?_ ?_
    rotate_left
    ·show Act.put _ (some 24) _ = _
     simp only [Act.put,List.setIfInBounds_toArray,List.set_cons_zero,List.set_cons_succ,i64_w,i32_w,IntKind.wrap_u8]
     rfl
    refine one_ (i:=3) (N:=some 25) #[true,true,true,true,false] rfl rfl (by kernel_rfl) (by decide) (fun K hK => ?_)
    refine goes_ Tryd.func24 (by kernel_rfl) rfl #[.agg #[.slice Ao25 t252.length co25],.agg #[.slice Ao31 t257.length co31]] (by rfl) rfl rfl (by (try simp only [List.map_toArray,List.map_cons,List.map_nil]);first|done|rfl|(simp only [List.length_drop,List.length_take];rfl)) ?_
    with_reducible refine (laws_eqExpr.calls k _ _ t252 _ _ t257 true _ ?side1 ?side2 ?side3 ?side4 A13.out).mono ?_
    (case side1 => repeat (first|exact (Kd.S_reads' HO254.out).2.2|(with_reducible refine Kd.C_alloc ?_ _)|(with_reducible refine Kd.C_drewN ?_ _)|(with_reducible refine Kd.C_drew ?_)))
    (case side2 => exact (Kd.S_reads' HO254.out).2.1)
    (case side3 => repeat (first|exact (Kd.S_reads' HO259.out).2.2|(with_reducible refine Kd.C_alloc ?_ _)|(with_reducible refine Kd.C_drewN ?_ _)|(with_reducible refine Kd.C_drew ?_)))
    (case side4 => exact (Kd.S_reads' HO259.out).2.1)
    rintro e w32 ⟨rfl,hb⟩
    refine ⟨_,rfl,?_⟩
    have n0_:=zm_ (Kd.S_below (by (with_reducible repeat (first|apply Kd.S_alloc|apply Kd.S_drewN|apply Kd.S_drew));exact HO250.out) hb)
    have n1_:=zm_ (Kd.S_below (by (with_reducible repeat (first|apply Kd.S_alloc|apply Kd.S_drewN|apply Kd.S_drew));exact HO254.out) hb)
    have n2_:=zm_ (Kd.S_below (by (with_reducible repeat (first|apply Kd.S_alloc|apply Kd.S_drewN|apply Kd.S_drew));exact HO259.out) hb)
    have n3_:=zm_ (blk_below (g:=gb246) (o:=.cells #[.slice A0_0 l0_0.length c0_0] 39 (0,0)) (by (with_reducible repeat first|refine zl_ ?_ _|refine zr_ ?_|refine zk_ ?_ _);exact BK246.out) hb)
    have n4_:=zm_ (blk_below (g:=gb255) (o:=.cells #[.slice Ao25 t252.length co25] 44 (0,0)) (by (with_reducible repeat first|refine zl_ ?_ _|refine zr_ ?_|refine zk_ ?_ _);exact BK255.out) hb)
    have n5_:=zm_ (below_step (by repeat (first|(with_reducible first|exact HB.out|apply za_|apply zn_|apply zd_|refine zs_ ?_ GE246.out|refine zs_ ?_ GE255.out)|exact HB.out)) hb)
    clear HO250
    clear HO254
    clear HO259
    clear BK246
    clear BK255
    clear HB
    have HO250:=n0_
    have HO254:=n1_
    have HO259:=n2_
    have BK246:=n3_
    have BK255:=n4_
    have HB:=n5_
    clear n0_ n1_ n2_ n3_ n4_ n5_
    (try clear hb)
    (try clear hb2)
    (try clear hk)
    (try clear hi)
    refine hK.out _ _ ⟨(zc_ BK255.out 0).trans rfl,(zc_ BK246.out 0).trans rfl⟩ (fun hHeld => ?_)
    clear hK K
    refine norm_ (a':=?_) ?_ ?_
    rotate_left
    ·show Act.put _ (some 25) _ = _
     simp only [Act.put,List.setIfInBounds_toArray,List.set_cons_zero,List.set_cons_succ,i64_w,i32_w,IntKind.wrap_u8]
     rfl
    refine pure_ (i:=4) (N:=some 26) (v:=?_) (a':=?_) #[true,true,true,true,true] rfl rfl (by kernel_rfl) (fun _ _ _ h => h) (Or.inl ⟨by rfl,?_⟩) ?_ ?_
    rotate_left
    ·intro w'
     go_simp
     with_reducible rfl
    rotate_left
    ·simp only [Act.put,List.setIfInBounds_toArray,List.set_cons_zero,List.set_cons_succ,i64_w,i32_w,IntKind.wrap_u8]
     rfl
    refine done_ (by kernel_rfl) ?_
    try go_wp2
    go_ret
    exact ⟨by first|rfl|(simp [errW_none,errW_some] <;> rfl)|(simp [*,errW_none,errW_some] <;> rfl),by repeat (first|(with_reducible first|exact HB.out|apply za_|apply zn_|apply zd_|refine zs_ ?_ GE246.out|refine zs_ ?_ GE255.out)|exact HB.out)⟩
   ·replace c14:=Bool.eq_false_iff.mpr c14
    subst c14
    have H1 : (some false) = some r:=by rw [if_neg (show ¬ (false = true) by decide)] at H;exact H
    clear H
    have H:=H1
    clear H1
    obtain rfl:=Option.some.inj H
    go_enter Tryd.func6,Tryd.ntmps6
    try go_wp2_with (first|((with_reducible refine gate_dst (N:=1) rfl ?_);refine box_event ?hg (N:=1) ?hd (cs:=#[.slice A0_0 l0_0.length c0_0]) (t:=39) ?hr ?_;(case hd => rfl);(case hg => rfl);(case hr => first|(go_simp;done)|(go_simp;rfl));intro gb246 hg w33 hbox hb;have n0_:=zm_ (below_step (by repeat (first|(with_reducible first|exact HB.out|apply za_|apply zn_|apply zd_)|exact HB.out)) hb);have n1_:=zm_ (hbox);have n2_:=zm_ ((by rw [hg];exact (below_size (by repeat (first|(with_reducible first|exact HB.out|apply za_|apply zn_|apply zd_)|exact HB.out))) : w.heap.size ≤ gb246));have n3_:=zm_ ((by rw [hg];exact (below_size (by repeat (first|(with_reducible first|exact HB.out|apply za_|apply zn_|apply zd_)|exact HB.out))) : w.heap.size ≤ gb246));clear HB;have HB:=n0_;have BK246:=n1_;have GW246:=n2_;have GE246:=n3_;clear n0_ n1_ n2_ n3_;clear hb hbox hg;have hcz34_0 : w33.cell? ⟨gb246,0,none⟩ = some (.slice A0_0 l0_0.length c0_0):=(zc_ BK246.out 0).trans rfl;have hfz34_0:=zf_ BK246.out 0)|((with_reducible refine gate_callee (f:=20) rfl ?_);refine goesL_ (some 9) rfl rfl Tryd.func20 (by kernel_rfl) rfl #[.agg #[.slice A0_0 l0_0.length c0_0],.int .i64 1048576] rfl (by (try simp only [List.map_toArray,List.map_cons,List.map_nil]);first|done|rfl|(simp only [List.length_drop,List.length_take];rfl)) ?_;(with_reducible refine (laws_szExpr.calls k _ _ l0_0 1048576 t247 _ ?side1 ?side2 A2.out).mono ?_);(case side1 => repeat (first|exact (Kd.C_below HR0_0.out HB.out)|(with_reducible refine Kd.C_alloc ?_ _)|(with_reducible refine Kd.C_drewN ?_ _)|(with_reducible refine Kd.C_drew ?_)));(case side2 => exact HC0_0.out);rintro e w35 ⟨rfl,hb⟩;refine ⟨_,rfl,?_⟩;have n0_:=zm_ (blk_below (g:=gb246) (o:=.cells #[.slice A0_0 l0_0.length c0_0] 39 (0,0)) (by (with_reducible repeat first|refine zl_ ?_ _|refine zr_ ?_|refine zk_ ?_ _);exact BK246.out) hb);have n1_:=zm_ (below_step (by repeat (first|(with_reducible first|exact HB.out|apply za_|apply zn_|apply zd_|refine zs_ ?_ GE246.out)|exact HB.out)) hb);clear BK246;clear HB;have BK246:=n0_;have HB:=n1_;clear n0_ n1_;(try clear hb);(try clear hb2);(try clear hk);(try clear hi);have hcz36_0 : w35.cell? ⟨gb246,0,none⟩ = some (.slice A0_0 l0_0.length c0_0):=(zc_ BK246.out 0).trans rfl;have hfz36_0:=zf_ BK246.out 0)|((with_reducible refine gate_callee (f:=22) rfl ?_);refine goesL_ (some 13) rfl rfl Tryd.func22 (by kernel_rfl) rfl #[.agg #[.slice A0_0 l0_0.length c0_0]] rfl (by (try simp only [List.map_toArray,List.map_cons,List.map_nil]);first|done|rfl|(simp only [List.length_drop,List.length_take];rfl)) ?_;(with_reducible refine (laws_toExpr.calls k _ _ l0_0 t248 _ ?side1 ?side2 A7.out).mono ?_);(case side1 => repeat (first|exact (Kd.C_below HR0_0.out HB.out)|(with_reducible refine Kd.C_alloc ?_ _)|(with_reducible refine Kd.C_drewN ?_ _)|(with_reducible refine Kd.C_drew ?_)));(case side2 => exact HC0_0.out);rintro e w37 ⟨v249,rfl,ho0,hb⟩;refine ⟨_,rfl,?_⟩;have n0_:=zm_ (Kd.S_lower ho0 (below_size (by repeat (first|(with_reducible first|exact HB.out|apply za_|apply zn_|apply zd_|refine zs_ ?_ GE246.out)|exact HB.out))));have n1_:=zm_ (blk_below (g:=gb246) (o:=.cells #[.slice A0_0 l0_0.length c0_0] 39 (0,0)) (by (with_reducible repeat first|refine zl_ ?_ _|refine zr_ ?_|refine zk_ ?_ _);exact BK246.out) hb);have n2_:=zm_ (below_step (by repeat (first|(with_reducible first|exact HB.out|apply za_|apply zn_|apply zd_|refine zs_ ?_ GE246.out)|exact HB.out)) hb);clear BK246;clear HB;have HO250:=n0_;have BK246:=n1_;have HB:=n2_;clear n0_ n1_ n2_;(try clear hb);(try clear hb2);(try clear hk);(try clear hi);(try clear ho0);obtain ⟨Ao38,co38,eo38⟩:=Kd.S_slice HO250.out;subst eo38)|((with_reducible refine gate_callee (f:=21) rfl ?_);refine goesL_ (some 14) rfl rfl Tryd.func21 (by kernel_rfl) rfl #[.agg #[.slice Ao38 t248.length co38]] rfl (by (try simp only [List.map_toArray,List.map_cons,List.map_nil]);first|done|rfl|(simp only [List.length_drop,List.length_take];rfl)) ?_;(with_reducible refine (spec_ShowExpr.calls k _ _ t248 t251 _ ?side1 ?side2 A8.out).mono ?_);(case side1 => repeat (first|exact (Kd.S_reads' HO250.out).2.2|(with_reducible refine Kd.C_alloc ?_ _)|(with_reducible refine Kd.C_drewN ?_ _)|(with_reducible refine Kd.C_drew ?_)));(case side2 => exact (Kd.S_reads' HO250.out).2.1);rintro e w39 ⟨rfl,hb⟩;refine ⟨_,rfl,?_⟩;have n0_:=zm_ (Kd.S_below (by (with_reducible repeat (first|apply Kd.S_alloc|apply Kd.S_drewN|apply Kd.S_drew));exact HO250.out) hb);have n1_:=zm_ (blk_below (g:=gb246) (o:=.cells #[.slice A0_0 l0_0.length c0_0] 39 (0,0)) (by (with_reducible repeat first|refine zl_ ?_ _|refine zr_ ?_|refine zk_ ?_ _);exact BK246.out) hb);have n2_:=zm_ (below_step (by repeat (first|(with_reducible first|exact HB.out|apply za_|apply zn_|apply zd_|refine zs_ ?_ GE246.out)|exact HB.out)) hb);clear HO250;clear BK246;clear HB;have HO250:=n0_;have BK246:=n1_;have HB:=n2_;clear n0_ n1_ n2_;(try clear hb);(try clear hb2);(try clear hk);(try clear hi);have hcz40_0 : w39.cell? ⟨gb246,0,none⟩ = some (.slice A0_0 l0_0.length c0_0):=(zc_ BK246.out 0).trans rfl;have hfz40_0:=zf_ BK246.out 0)|((with_reducible refine gate_callee (f:=22) rfl ?_);refine goesL_ (some 16) rfl rfl Tryd.func22 (by kernel_rfl) rfl #[.agg #[.slice A0_0 l0_0.length c0_0]] rfl (by (try simp only [List.map_toArray,List.map_cons,List.map_nil]);first|done|rfl|(simp only [List.length_drop,List.length_take];rfl)) ?_;(with_reducible refine (laws_toExpr.calls k _ _ l0_0 t252 _ ?side1 ?side2 A9.out).mono ?_);(case side1 => repeat (first|exact (Kd.C_below HR0_0.out HB.out)|(with_reducible refine Kd.C_alloc ?_ _)|(with_reducible refine Kd.C_drewN ?_ _)|(with_reducible refine Kd.C_drew ?_)));(case side2 => exact HC0_0.out);rintro e w41 ⟨v253,rfl,ho0,hb⟩;refine ⟨_,rfl,?_⟩;have n0_:=zm_ (Kd.S_elder' (by (with_reducible repeat (first|apply Kd.S_alloc|apply Kd.S_drewN|apply Kd.S_drew));exact HO250.out) (Kd.S_base ho0) hb);have n1_:=zm_ (Kd.S_lower (Kd.S_new' ho0 (Kd.S_lt (by (with_reducible repeat (first|apply Kd.S_alloc|apply Kd.S_drewN|apply Kd.S_drew));exact HO250.out))) (below_size (by repeat (first|(with_reducible first|exact HB.out|apply za_|apply zn_|apply zd_|refine zs_ ?_ GE246.out)|exact HB.out))));have n2_:=zm_ (blk_below (g:=gb246) (o:=.cells #[.slice A0_0 l0_0.length c0_0] 39 (0,0)) (by (with_reducible repeat first|refine zl_ ?_ _|refine zr_ ?_|refine zk_ ?_ _);exact BK246.out) hb);have n3_:=zm_ (below_step (by repeat (first|(with_reducible first|exact HB.out|apply za_|apply zn_|apply zd_|refine zs_ ?_ GE246.out)|exact HB.out)) hb);clear HO250;clear BK246;clear HB;have HO250:=n0_;have HO254:=n1_;have BK246:=n2_;have HB:=n3_;clear n0_ n1_ n2_ n3_;(try clear hb);(try clear hb2);(try clear hk);(try clear hi);(try clear ho0))|((with_reducible refine gate_dst (N:=5) rfl ?_);refine box_event ?hg (N:=5) ?hd (cs:=#[.slice none 0 0]) (t:=44) ?hr ?_;(case hd => rfl);(case hg => rfl);(case hr => first|(go_simp;done)|(go_simp;rfl));intro gb255 hg w42 hbox hb;have n0_:=zm_ (Kd.S_below (by (with_reducible repeat (first|apply Kd.S_alloc|apply Kd.S_drewN|apply Kd.S_drew));exact HO250.out) hb);have n1_:=zm_ (Kd.S_below (by (with_reducible repeat (first|apply Kd.S_alloc|apply Kd.S_drewN|apply Kd.S_drew));exact HO254.out) hb);have n2_:=zm_ (blk_below (g:=gb246) (o:=.cells #[.slice A0_0 l0_0.length c0_0] 39 (0,0)) (by (with_reducible repeat first|refine zl_ ?_ _|refine zr_ ?_|refine zk_ ?_ _);exact BK246.out) hb);have n3_:=zm_ (below_step (by repeat (first|(with_reducible first|exact HB.out|apply za_|apply zn_|apply zd_|refine zs_ ?_ GE246.out)|exact HB.out)) hb);have n4_:=zm_ (hbox);have n5_:=zm_ ((by rw [hg];exact (below_size (by repeat (first|(with_reducible first|exact HB.out|apply za_|apply zn_|apply zd_|refine zs_ ?_ GE246.out)|exact HB.out))) : w.heap.size ≤ gb255));have n6_:=zm_ ((by rw [hg];exact (below_size (by repeat (first|(with_reducible first|exact HB.out|apply za_|apply zn_|apply zd_|refine zs_ ?_ GE246.out)|exact HB.out))) : w.heap.size ≤ gb255));have n7_:=zm_ ((by rw [hg];exact Nat.ne_of_lt (blk_lt (g:=gb246) (o:=.cells #[.slice A0_0 l0_0.length c0_0] 39 (0,0)) (by (with_reducible repeat first|refine zl_ ?_ _|refine zr_ ?_|refine zk_ ?_ _);exact BK246.out)) : gb246 ≠ gb255));have n8_:=zm_ ((by rw [hg];exact Nat.ne_of_gt (blk_lt (g:=gb246) (o:=.cells #[.slice A0_0 l0_0.length c0_0] 39 (0,0)) (by (with_reducible repeat first|refine zl_ ?_ _|refine zr_ ?_|refine zk_ ?_ _);exact BK246.out)) : gb255 ≠ gb246));clear HO250;clear HO254;clear BK246;clear HB;have HO250:=n0_;have HO254:=n1_;have BK246:=n2_;have HB:=n3_;have BK255:=n4_;have GW255:=n5_;have GE255:=n6_;have NB246_255:=n7_;have NB255_246:=n8_;clear n0_ n1_ n2_ n3_ n4_ n5_ n6_ n7_ n8_;clear hb hbox hg;obtain ⟨Ao43,co43,eo43⟩:=Kd.S_slice HO254.out;subst eo43;have hnb44:=NB255_246.out;have hnc44:=NB246_255.out;have hcz45_0 : w42.cell? ⟨gb255,0,none⟩ = some (.slice none 0 0):=(zc_ BK255.out 0).trans rfl;have hfz45_0:=zf_ BK255.out 0)|((with_reducible refine gate_callee (f:=23) rfl ?_);refine goesL_ (some 18) rfl rfl Tryd.func23 (by kernel_rfl) rfl #[.agg #[.slice Ao43 t252.length co43]] rfl (by (try simp only [List.map_toArray,List.map_cons,List.map_nil]);first|done|rfl|(simp only [List.length_drop,List.length_take];rfl)) ?_;(with_reducible refine (impl_ShowExpr.calls k _ _ t252 t256 _ ?side1 ?side2 (Tb.below HTAB.out (by repeat (first|(with_reducible first|exact HB.out|apply za_|apply zn_|apply zd_|refine zs_ ?_ GE246.out|refine zs_ ?_ GE255.out)|exact HB.out))) A10.out).mono ?_);(case side1 => refine (Kd.S_reads' (e:=70) (base:=w.heap.size) (ok:=fun k_ => (True ∧ some k_ ≠ (.slice Ao38 t248.length co38 : Value).ownBlock)) (n:=t252.length) (c:=co43) ?_).2.2;exact (by (with_reducible repeat (first|apply Kd.S_alloc|apply Kd.S_drewN|apply Kd.S_drew));exact (Kd.S_mono (Kd.S_far (p:=⟨gb255,0,none⟩) (Kd.S_types HO254.out BK255.out (by decide)) (fun _ hk => hk.2) (.slice Ao43 t252.length co43)) (fun _ h_ => h_.1))));(case side2 => exact (Kd.S_reads' HO254.out).2.1);rintro e w46 ⟨rfl,hb⟩;refine ⟨_,rfl,?_⟩;have n0_:=zm_ (Kd.S_below (by (with_reducible repeat (first|apply Kd.S_alloc|apply Kd.S_drewN|apply Kd.S_drew));exact (Kd.S_mono (Kd.S_far (p:=⟨gb255,0,none⟩) (Kd.S_types HO250.out BK255.out (by decide)) (fun _ hk => hk.2) (.slice Ao43 t252.length co43)) (fun _ h_ => h_.1))) hb);have n1_:=zm_ (Kd.S_below (by (with_reducible repeat (first|apply Kd.S_alloc|apply Kd.S_drewN|apply Kd.S_drew));exact (Kd.S_mono (Kd.S_far (p:=⟨gb255,0,none⟩) (Kd.S_types HO254.out BK255.out (by decide)) (fun _ hk => hk.2) (.slice Ao43 t252.length co43)) (fun _ h_ => h_.1))) hb);have n2_:=zm_ (blk_below (g:=gb246) (o:=.cells #[.slice A0_0 l0_0.length c0_0] 39 (0,0)) (by (with_reducible repeat first|refine zl_ ?_ _|refine zr_ ?_|refine zk_ ?_ _);refine blk_far ?_ NB246_255.out _;(with_reducible repeat first|refine zl_ ?_ _|refine zr_ ?_|refine zk_ ?_ _);exact BK246.out) hb);have n3_:=zm_ (blk_below (g:=gb255) (o:=.cells #[.slice Ao43 t252.length co43] 44 (0,0)) (by (with_reducible repeat first|refine zl_ ?_ _|refine zr_ ?_|refine zk_ ?_ _);refine blk_put (cs:=#[.slice none 0 0]) ?_ 0 _ rfl;(with_reducible repeat first|refine zl_ ?_ _|refine zr_ ?_|refine zk_ ?_ _);exact BK255.out) hb);have n4_:=zm_ (below_step (by repeat (first|(with_reducible first|exact HB.out|apply za_|apply zn_|apply zd_|refine zs_ ?_ GE246.out|refine zs_ ?_ GE255.out)|exact HB.out)) hb);clear HO250;clear HO254;clear BK246;clear BK255;clear HB;have HO250:=n0_;have HO254:=n1_;have BK246:=n2_;have BK255:=n3_;have HB:=n4_;clear n0_ n1_ n2_ n3_ n4_;(try clear hb);(try clear hb2);(try clear hk);(try clear hi)))
    have n0_:=zm_ (Kd.S_drew HO250.out)
    have n1_:=zm_ (Kd.S_drew HO254.out)
    have n2_:=zm_ (zr_ BK246.out)
    have n3_:=zm_ (zr_ BK255.out)
    have n4_:=zm_ (zd_ HB.out)
    clear HO250
    clear HO254
    clear BK246
    clear BK255
    clear HB
    have HO250:=n0_
    have HO254:=n1_
    have BK246:=n2_
    have BK255:=n3_
    have HB:=n4_
    clear n0_ n1_ n2_ n3_ n4_
    refine start_ (n:=5) (S:=fun w' => w'.cell? ⟨gb255,0,none⟩ = some (.slice Ao43 t252.length co43) ∧ w'.cell? ⟨gb246,0,none⟩ = some (.slice A0_0 l0_0.length c0_0)) (ds:=[]) #[false,false,false,false,false] (by kernel_rfl) rfl rfl ⟨(zc_ BK255.out 0).trans rfl,(zc_ BK246.out 0).trans rfl⟩ (fun hHeld => ?_)
    generalize w46.drew = w47 at HO250 HO254 BK246 BK255 HB hHeld ⊢
    refine take_ (i:=0) (N:=some 22) (v:=?_) (a':=?_) #[true,false,false,false,false] rfl rfl (by kernel_rfl) (fun _ _ _ h => h) (Or.inl ⟨by rfl,?_⟩) hHeld ?_ ?_
    rotate_left
    ·rintro w' ⟨s0,s1⟩
     go_simp
     with_reducible rfl
    rotate_left
    ·simp only [Act.put,List.setIfInBounds_toArray,List.set_cons_zero,List.set_cons_succ,i64_w,i32_w,IntKind.wrap_u8]
     rfl
    refine take_ (i:=1) (N:=some 23) (v:=?_) (a':=?_) #[true,true,false,false,false] rfl rfl (by kernel_rfl) (fun _ _ _ h => h) (Or.inl ⟨by rfl,?_⟩) hHeld ?_ ?_
    rotate_left
    ·rintro w' ⟨s0,s1⟩
     go_simp
     with_reducible rfl
    rotate_left
    ·simp only [Act.put,List.setIfInBounds_toArray,List.set_cons_zero,List.set_cons_succ,i64_w,i32_w,IntKind.wrap_u8]
     rfl
    refine one_ (i:=2) (N:=some 24) #[true,true,true,false,false] rfl rfl (by kernel_rfl) (by decide) (fun K hK => ?_)
    refine goes_ Tryd.func22 (by kernel_rfl) rfl #[.agg #[.slice A0_0 l0_0.length c0_0]] (by rfl) rfl rfl (by (try simp only [List.map_toArray,List.map_cons,List.map_nil]);first|done|rfl|(simp only [List.length_drop,List.length_take];rfl)) ?_
    with_reducible refine (laws_toExpr.calls k _ _ l0_0 t257 _ ?side1 ?side2 A12.out).mono ?_
    (case side1 => repeat (first|exact (Kd.C_below HR0_0.out HB.out)|(with_reducible refine Kd.C_alloc ?_ _)|(with_reducible refine Kd.C_drewN ?_ _)|(with_reducible refine Kd.C_drew ?_)))
    (case side2 => exact HC0_0.out)
    rintro e w48 ⟨v258,rfl,ho0,hb⟩
    refine ⟨_,rfl,?_⟩
    have n0_:=zm_ (Kd.S_elder' (by (with_reducible repeat (first|apply Kd.S_alloc|apply Kd.S_drewN|apply Kd.S_drew));exact HO250.out) (Kd.S_base ho0) hb)
    have n1_:=zm_ (Kd.S_elder' (by (with_reducible repeat (first|apply Kd.S_alloc|apply Kd.S_drewN|apply Kd.S_drew));exact HO254.out) (Kd.S_base ho0) hb)
    have n2_:=zm_ (Kd.S_lower (Kd.S_new' (Kd.S_new' ho0 (Kd.S_lt (by (with_reducible repeat (first|apply Kd.S_alloc|apply Kd.S_drewN|apply Kd.S_drew));exact HO250.out))) (Kd.S_lt (by (with_reducible repeat (first|apply Kd.S_alloc|apply Kd.S_drewN|apply Kd.S_drew));exact HO254.out))) (below_size (by repeat (first|(with_reducible first|exact HB.out|apply za_|apply zn_|apply zd_|refine zs_ ?_ GE246.out|refine zs_ ?_ GE255.out)|exact HB.out))))
    have n3_:=zm_ (blk_below (g:=gb246) (o:=.cells #[.slice A0_0 l0_0.length c0_0] 39 (0,0)) (by (with_reducible repeat first|refine zl_ ?_ _|refine zr_ ?_|refine zk_ ?_ _);exact BK246.out) hb)
    have n4_:=zm_ (blk_below (g:=gb255) (o:=.cells #[.slice Ao43 t252.length co43] 44 (0,0)) (by (with_reducible repeat first|refine zl_ ?_ _|refine zr_ ?_|refine zk_ ?_ _);exact BK255.out) hb)
    have n5_:=zm_ (below_step (by repeat (first|(with_reducible first|exact HB.out|apply za_|apply zn_|apply zd_|refine zs_ ?_ GE246.out|refine zs_ ?_ GE255.out)|exact HB.out)) hb)
    clear HO250
    clear HO254
    clear BK246
    clear BK255
    clear HB
    have HO250:=n0_
    have HO254:=n1_
    have HO259:=n2_
    have BK246:=n3_
    have BK255:=n4_
    have HB:=n5_
    clear n0_ n1_ n2_ n3_ n4_ n5_
    (try clear hb)
    (try clear hb2)
    (try clear hk)
    (try clear hi)
    (try clear ho0)
    obtain ⟨Ao49,co49,eo49⟩:=Kd.S_slice HO259.out
    (first|subst eo49|(injection eo49 with f1_ f2_ f3_;have f4_:=f1_.symm;have f5_:=f3_.symm;clear f1_ f2_ f3_;subst f4_;subst f5_))
    refine hK.out _ _ ⟨(zc_ BK255.out 0).trans rfl,(zc_ BK246.out 0).trans rfl⟩ (fun hHeld => ?_)
    clear hK K
    refine norm_ (a':=?_) ?_ ?_
    rotate_left
    ·show Act.put _ (some 24) _ = _
     simp only [Act.put,List.setIfInBounds_toArray,List.set_cons_zero,List.set_cons_succ,i64_w,i32_w,IntKind.wrap_u8]
     rfl
    refine one_ (i:=3) (N:=some 25) #[true,true,true,true,false] rfl rfl (by kernel_rfl) (by decide) (fun K hK => ?_)
    refine goes_ Tryd.func24 (by kernel_rfl) rfl #[.agg #[.slice Ao43 t252.length co43],.agg #[.slice Ao49 t257.length co49]] (by rfl) rfl rfl (by (try simp only [List.map_toArray,List.map_cons,List.map_nil]);first|done|rfl|(simp only [List.length_drop,List.length_take];rfl)) ?_
    with_reducible refine (laws_eqExpr.calls k _ _ t252 _ _ t257 false _ ?side1 ?side2 ?side3 ?side4 A13.out).mono ?_
    (case side1 => repeat (first|exact (Kd.S_reads' HO254.out).2.2|(with_reducible refine Kd.C_alloc ?_ _)|(with_reducible refine Kd.C_drewN ?_ _)|(with_reducible refine Kd.C_drew ?_)))
    (case side2 => exact (Kd.S_reads' HO254.out).2.1)
    (case side3 => repeat (first|exact (Kd.S_reads' HO259.out).2.2|(with_reducible refine Kd.C_alloc ?_ _)|(with_reducible refine Kd.C_drewN ?_ _)|(with_reducible refine Kd.C_drew ?_)))
    (case side4 => exact (Kd.S_reads' HO259.out).2.1)
    rintro e w50 ⟨rfl,hb⟩
    refine ⟨_,rfl,?_⟩
    have n0_:=zm_ (Kd.S_below (by (with_reducible repeat (first|apply Kd.S_alloc|apply Kd.S_drewN|apply Kd.S_drew));exact HO250.out) hb)
    have n1_:=zm_ (Kd.S_below (by (with_reducible repeat (first|apply Kd.S_alloc|apply Kd.S_drewN|apply Kd.S_drew));exact HO254.out) hb)
    have n2_:=zm_ (Kd.S_below (by (with_reducible repeat (first|apply Kd.S_alloc|apply Kd.S_drewN|apply Kd.S_drew));exact HO259.out) hb)
    have n3_:=zm_ (blk_below (g:=gb246) (o:=.cells #[.slice A0_0 l0_0.length c0_0] 39 (0,0)) (by (with_reducible repeat first|refine zl_ ?_ _|refine zr_ ?_|refine zk_ ?_ _);exact BK246.out) hb)
    have n4_:=zm_ (blk_below (g:=gb255) (o:=.cells #[.slice Ao43 t252.length co43] 44 (0,0)) (by (with_reducible repeat first|refine zl_ ?_ _|refine zr_ ?_|refine zk_ ?_ _);exact BK255.out) hb)
    have n5_:=zm_ (below_step (by repeat (first|(with_reducible first|exact HB.out|apply za_|apply zn_|apply zd_|refine zs_ ?_ GE246.out|refine zs_ ?_ GE255.out)|exact HB.out)) hb)
    clear HO250
    clear HO254
    clear HO259
    clear BK246
    clear BK255
    clear HB
    have HO250:=n0_
    have HO254:=n1_
    have HO259:=n2_
    have BK246:=n3_
    have BK255:=n4_
    have HB:=n5_
    clear n0_ n1_ n2_ n3_ n4_ n5_
    (try clear hb)
    (try clear hb2)
    (try clear hk)
    (try clear hi)
    refine hK.out _ _ ⟨(zc_ BK255.out 0).trans rfl,(zc_ BK246.out 0).trans rfl⟩ (fun hHeld => ?_)
    clear hK K
    refine norm_ (a':=?_) ?_ ?_
    rotate_left
    ·show Act.put _ (some 25) _ = _
     simp only [Act.put,List.setIfInBounds_toArray,List.set_cons_zero,List.set_cons_succ,i64_w,i32_w,IntKind.wrap_u8]
     rfl
    refine pure_ (i:=4) (N:=some 26) (v:=?_) (a':=?_) #[true,true,true,true,true] rfl rfl (by kernel_rfl) (fun _ _ _ h => h) (Or.inl ⟨by rfl,?_⟩) ?_ ?_
    rotate_left
    ·intro w'
     go_simp
     with_reducible rfl
    rotate_left
    ·simp only [Act.put,List.setIfInBounds_toArray,List.set_cons_zero,List.set_cons_succ,i64_w,i32_w,IntKind.wrap_u8]
     rfl
    refine done_ (by kernel_rfl) ?_
    try go_wp2
    go_ret
    exact ⟨by first|rfl|(simp [errW_none,errW_some] <;> rfl)|(simp [*,errW_none,errW_some] <;> rfl),by repeat (first|(with_reducible first|exact HB.out|apply za_|apply zn_|apply zd_|refine zs_ ?_ GE246.out|refine zs_ ?_ GE255.out)|exact HB.out)⟩
  ·rw [if_neg c11] at H
   have c11b0 : (t256.toList == t251.toList) = false:=beq_eq_false_iff_ne.mpr c11
   have c11b1 : (t256.toList != t251.toList) = true:=bne_iff_ne.mpr c11
   obtain rfl:=Option.some.inj H
   go_enter Tryd.func6,Tryd.ntmps6
   go_wp2_with (first|((with_reducible refine gate_dst (N:=1) rfl ?_);refine box_event ?hg (N:=1) ?hd (cs:=#[.slice A0_0 l0_0.length c0_0]) (t:=39) ?hr ?_;(case hd => rfl);(case hg => rfl);(case hr => first|(go_simp;done)|(go_simp;rfl));intro gb246 hg w51 hbox hb;have n0_:=zm_ (below_step (by repeat (first|(with_reducible first|exact HB.out|apply za_|apply zn_|apply zd_)|exact HB.out)) hb);have n1_:=zm_ (hbox);have n2_:=zm_ ((by rw [hg];exact (below_size (by repeat (first|(with_reducible first|exact HB.out|apply za_|apply zn_|apply zd_)|exact HB.out))) : w.heap.size ≤ gb246));have n3_:=zm_ ((by rw [hg];exact (below_size (by repeat (first|(with_reducible first|exact HB.out|apply za_|apply zn_|apply zd_)|exact HB.out))) : w.heap.size ≤ gb246));clear HB;have HB:=n0_;have BK246:=n1_;have GW246:=n2_;have GE246:=n3_;clear n0_ n1_ n2_ n3_;clear hb hbox hg;have hcz52_0 : w51.cell? ⟨gb246,0,none⟩ = some (.slice A0_0 l0_0.length c0_0):=(zc_ BK246.out 0).trans rfl;have hfz52_0:=zf_ BK246.out 0)|((with_reducible refine gate_callee (f:=20) rfl ?_);refine goesL_ (some 9) rfl rfl Tryd.func20 (by kernel_rfl) rfl #[.agg #[.slice A0_0 l0_0.length c0_0],.int .i64 1048576] rfl (by (try simp only [List.map_toArray,List.map_cons,List.map_nil]);first|done|rfl|(simp only [List.length_drop,List.length_take];rfl)) ?_;(with_reducible refine (laws_szExpr.calls k _ _ l0_0 1048576 t247 _ ?side1 ?side2 A2.out).mono ?_);(case side1 => repeat (first|exact (Kd.C_below HR0_0.out HB.out)|(with_reducible refine Kd.C_alloc ?_ _)|(with_reducible refine Kd.C_drewN ?_ _)|(with_reducible refine Kd.C_drew ?_)));(case side2 => exact HC0_0.out);rintro e w53 ⟨rfl,hb⟩;refine ⟨_,rfl,?_⟩;have n0_:=zm_ (blk_below (g:=gb246) (o:=.cells #[.slice A0_0 l0_0.length c0_0] 39 (0,0)) (by (with_reducible repeat first|refine zl_ ?_ _|refine zr_ ?_|refine zk_ ?_ _);exact BK246.out) hb);have n1_:=zm_ (below_step (by repeat (first|(with_reducible first|exact HB.out|apply za_|apply zn_|apply zd_|refine zs_ ?_ GE246.out)|exact HB.out)) hb);clear BK246;clear HB;have BK246:=n0_;have HB:=n1_;clear n0_ n1_;(try clear hb);(try clear hb2);(try clear hk);(try clear hi);have hcz54_0 : w53.cell? ⟨gb246,0,none⟩ = some (.slice A0_0 l0_0.length c0_0):=(zc_ BK246.out 0).trans rfl;have hfz54_0:=zf_ BK246.out 0)|((with_reducible refine gate_callee (f:=22) rfl ?_);refine goesL_ (some 13) rfl rfl Tryd.func22 (by kernel_rfl) rfl #[.agg #[.slice A0_0 l0_0.length c0_0]] rfl (by (try simp only [List.map_toArray,List.map_cons,List.map_nil]);first|done|rfl|(simp only [List.length_drop,List.length_take];rfl)) ?_;(with_reducible refine (laws_toExpr.calls k _ _ l0_0 t248 _ ?side1 ?side2 A7.out).mono ?_);(case side1 => repeat (first|exact (Kd.C_below HR0_0.out HB.out)|(with_reducible refine Kd.C_alloc ?_ _)|(with_reducible refine Kd.C_drewN ?_ _)|(with_reducible refine Kd.C_drew ?_)));(case side2 => exact HC0_0.out);rintro e w55 ⟨v249,rfl,ho0,hb⟩;refine ⟨_,rfl,?_⟩;have n0_:=zm_ (Kd.S_lower ho0 (below_size (by repeat (first|(with_reducible first|exact HB.out|apply za_|apply zn_|apply zd_|refine zs_ ?_ GE246.out)|exact HB.out))));have n1_:=zm_ (blk_below (g:=gb246) (o:=.cells #[.slice A0_0 l0_0.length c0_0] 39 (0,0)) (by (with_reducible repeat first|refine zl_ ?_ _|refine zr_ ?_|refine zk_ ?_ _);exact BK246.out) hb);have n2_:=zm_ (below_step (by repeat (first|(with_reducible first|exact HB.out|apply za_|apply zn_|apply zd_|refine zs_ ?_ GE246.out)|exact HB.out)) hb);clear BK246;clear HB;have HO250:=n0_;have BK246:=n1_;have HB:=n2_;clear n0_ n1_ n2_;(try clear hb);(try clear hb2);(try clear hk);(try clear hi);(try clear ho0);obtain ⟨Ao56,co56,eo56⟩:=Kd.S_slice HO250.out;subst eo56)|((with_reducible refine gate_callee (f:=21) rfl ?_);refine goesL_ (some 14) rfl rfl Tryd.func21 (by kernel_rfl) rfl #[.agg #[.slice Ao56 t248.length co56]] rfl (by (try simp only [List.map_toArray,List.map_cons,List.map_nil]);first|done|rfl|(simp only [List.length_drop,List.length_take];rfl)) ?_;(with_reducible refine (spec_ShowExpr.calls k _ _ t248 t251 _ ?side1 ?side2 A8.out).mono ?_);(case side1 => repeat (first|exact (Kd.S_reads' HO250.out).2.2|(with_reducible refine Kd.C_alloc ?_ _)|(with_reducible refine Kd.C_drewN ?_ _)|(with_reducible refine Kd.C_drew ?_)));(case side2 => exact (Kd.S_reads' HO250.out).2.1);rintro e w57 ⟨rfl,hb⟩;refine ⟨_,rfl,?_⟩;have n0_:=zm_ (Kd.S_below (by (with_reducible repeat (first|apply Kd.S_alloc|apply Kd.S_drewN|apply Kd.S_drew));exact HO250.out) hb);have n1_:=zm_ (blk_below (g:=gb246) (o:=.cells #[.slice A0_0 l0_0.length c0_0] 39 (0,0)) (by (with_reducible repeat first|refine zl_ ?_ _|refine zr_ ?_|refine zk_ ?_ _);exact BK246.out) hb);have n2_:=zm_ (below_step (by repeat (first|(with_reducible first|exact HB.out|apply za_|apply zn_|apply zd_|refine zs_ ?_ GE246.out)|exact HB.out)) hb);clear HO250;clear BK246;clear HB;have HO250:=n0_;have BK246:=n1_;have HB:=n2_;clear n0_ n1_ n2_;(try clear hb);(try clear hb2);(try clear hk);(try clear hi);have hcz58_0 : w57.cell? ⟨gb246,0,none⟩ = some (.slice A0_0 l0_0.length c0_0):=(zc_ BK246.out 0).trans rfl;have hfz58_0:=zf_ BK246.out 0)|((with_reducible refine gate_callee (f:=22) rfl ?_);refine goesL_ (some 16) rfl rfl Tryd.func22 (by kernel_rfl) rfl #[.agg #[.slice A0_0 l0_0.length c0_0]] rfl (by (try simp only [List.map_toArray,List.map_cons,List.map_nil]);first|done|rfl|(simp only [List.length_drop,List.length_take];rfl)) ?_;(with_reducible refine (laws_toExpr.calls k _ _ l0_0 t252 _ ?side1 ?side2 A9.out).mono ?_);(case side1 => repeat (first|exact (Kd.C_below HR0_0.out HB.out)|(with_reducible refine Kd.C_alloc ?_ _)|(with_reducible refine Kd.C_drewN ?_ _)|(with_reducible refine Kd.C_drew ?_)));(case side2 => exact HC0_0.out);rintro e w59 ⟨v253,rfl,ho0,hb⟩;refine ⟨_,rfl,?_⟩;have n0_:=zm_ (Kd.S_elder' (by (with_reducible repeat (first|apply Kd.S_alloc|apply Kd.S_drewN|apply Kd.S_drew));exact HO250.out) (Kd.S_base ho0) hb);have n1_:=zm_ (Kd.S_lower (Kd.S_new' ho0 (Kd.S_lt (by (with_reducible repeat (first|apply Kd.S_alloc|apply Kd.S_drewN|apply Kd.S_drew));exact HO250.out))) (below_size (by repeat (first|(with_reducible first|exact HB.out|apply za_|apply zn_|apply zd_|refine zs_ ?_ GE246.out)|exact HB.out))));have n2_:=zm_ (blk_below (g:=gb246) (o:=.cells #[.slice A0_0 l0_0.length c0_0] 39 (0,0)) (by (with_reducible repeat first|refine zl_ ?_ _|refine zr_ ?_|refine zk_ ?_ _);exact BK246.out) hb);have n3_:=zm_ (below_step (by repeat (first|(with_reducible first|exact HB.out|apply za_|apply zn_|apply zd_|refine zs_ ?_ GE246.out)|exact HB.out)) hb);clear HO250;clear BK246;clear HB;have HO250:=n0_;have HO254:=n1_;have BK246:=n2_;have HB:=n3_;clear n0_ n1_ n2_ n3_;(try clear hb);(try clear hb2);(try clear hk);(try clear hi);(try clear ho0))|((with_reducible refine gate_dst (N:=5) rfl ?_);refine box_event ?hg (N:=5) ?hd (cs:=#[.slice none 0 0]) (t:=44) ?hr ?_;(case hd => rfl);(case hg => rfl);(case hr => first|(go_simp;done)|(go_simp;rfl));intro gb255 hg w60 hbox hb;have n0_:=zm_ (Kd.S_below (by (with_reducible repeat (first|apply Kd.S_alloc|apply Kd.S_drewN|apply Kd.S_drew));exact HO250.out) hb);have n1_:=zm_ (Kd.S_below (by (with_reducible repeat (first|apply Kd.S_alloc|apply Kd.S_drewN|apply Kd.S_drew));exact HO254.out) hb);have n2_:=zm_ (blk_below (g:=gb246) (o:=.cells #[.slice A0_0 l0_0.length c0_0] 39 (0,0)) (by (with_reducible repeat first|refine zl_ ?_ _|refine zr_ ?_|refine zk_ ?_ _);exact BK246.out) hb);have n3_:=zm_ (below_step (by repeat (first|(with_reducible first|exact HB.out|apply za_|apply zn_|apply zd_|refine zs_ ?_ GE246.out)|exact HB.out)) hb);have n4_:=zm_ (hbox);have n5_:=zm_ ((by rw [hg];exact (below_size (by repeat (first|(with_reducible first|exact HB.out|apply za_|apply zn_|apply zd_|refine zs_ ?_ GE246.out)|exact HB.out))) : w.heap.size ≤ gb255));have n6_:=zm_ ((by rw [hg];exact (below_size (by repeat (first|(with_reducible first|exact HB.out|apply za_|apply zn_|apply zd_|refine zs_ ?_ GE246.out)|exact HB.out))) : w.heap.size ≤ gb255));have n7_:=zm_ ((by rw [hg];exact Nat.ne_of_lt (blk_lt (g:=gb246) (o:=.cells #[.slice A0_0 l0_0.length c0_0] 39 (0,0)) (by (with_reducible repeat first|refine zl_ ?_ _|refine zr_ ?_|refine zk_ ?_ _);exact BK246.out)) : gb246 ≠ gb255));have n8_:=zm_ ((by rw [hg];exact Nat.ne_of_gt (blk_lt (g:=gb246) (o:=.cells #[.slice A0_0 l0_0.length c0_0] 39 (0,0)) (by (with_reducible repeat first|refine zl_ ?_ _|refine zr_ ?_|refine zk_ ?_ _);exact BK246.out)) : gb255 ≠ gb246));clear HO250;clear HO254;clear BK246;clear HB;have HO250:=n0_;have HO254:=n1_;have BK246:=n2_;have HB:=n3_;have BK255:=n4_;have GW255:=n5_;have GE255:=n6_;have NB246_255:=n7_;have NB255_246:=n8_;clear n0_ n1_ n2_ n3_ n4_ n5_ n6_ n7_ n8_;clear hb hbox hg;obtain ⟨Ao61,co61,eo61⟩:=Kd.S_slice HO254.out;subst eo61;have hnb62:=NB255_246.out;have hnc62:=NB246_255.out;have hcz63_0 : w60.cell? ⟨gb255,0,none⟩ = some (.slice none 0 0):=(zc_ BK255.out 0).trans rfl;have hfz63_0:=zf_ BK255.out 0)|((with_reducible refine gate_callee (f:=23) rfl ?_);refine goesL_ (some 18) rfl rfl Tryd.func23 (by kernel_rfl) rfl #[.agg #[.slice Ao61 t252.length co61]] rfl (by (try simp only [List.map_toArray,List.map_cons,List.map_nil]);first|done|rfl|(simp only [List.length_drop,List.length_take];rfl)) ?_;(with_reducible refine (impl_ShowExpr.calls k _ _ t252 t256 _ ?side1 ?side2 (Tb.below HTAB.out (by repeat (first|(with_reducible first|exact HB.out|apply za_|apply zn_|apply zd_|refine zs_ ?_ GE246.out|refine zs_ ?_ GE255.out)|exact HB.out))) A10.out).mono ?_);(case side1 => refine (Kd.S_reads' (e:=70) (base:=w.heap.size) (ok:=fun k_ => (True ∧ some k_ ≠ (.slice Ao56 t248.length co56 : Value).ownBlock)) (n:=t252.length) (c:=co61) ?_).2.2;exact (by (with_reducible repeat (first|apply Kd.S_alloc|apply Kd.S_drewN|apply Kd.S_drew));exact (Kd.S_mono (Kd.S_far (p:=⟨gb255,0,none⟩) (Kd.S_types HO254.out BK255.out (by decide)) (fun _ hk => hk.2) (.slice Ao61 t252.length co61)) (fun _ h_ => h_.1))));(case side2 => exact (Kd.S_reads' HO254.out).2.1);rintro e w64 ⟨rfl,hb⟩;refine ⟨_,rfl,?_⟩;have n0_:=zm_ (Kd.S_below (by (with_reducible repeat (first|apply Kd.S_alloc|apply Kd.S_drewN|apply Kd.S_drew));exact (Kd.S_mono (Kd.S_far (p:=⟨gb255,0,none⟩) (Kd.S_types HO250.out BK255.out (by decide)) (fun _ hk => hk.2) (.slice Ao61 t252.length co61)) (fun _ h_ => h_.1))) hb);have n1_:=zm_ (Kd.S_below (by (with_reducible repeat (first|apply Kd.S_alloc|apply Kd.S_drewN|apply Kd.S_drew));exact (Kd.S_mono (Kd.S_far (p:=⟨gb255,0,none⟩) (Kd.S_types HO254.out BK255.out (by decide)) (fun _ hk => hk.2) (.slice Ao61 t252.length co61)) (fun _ h_ => h_.1))) hb);have n2_:=zm_ (blk_below (g:=gb246) (o:=.cells #[.slice A0_0 l0_0.length c0_0] 39 (0,0)) (by (with_reducible repeat first|refine zl_ ?_ _|refine zr_ ?_|refine zk_ ?_ _);refine blk_far ?_ NB246_255.out _;(with_reducible repeat first|refine zl_ ?_ _|refine zr_ ?_|refine zk_ ?_ _);exact BK246.out) hb);have n3_:=zm_ (blk_below (g:=gb255) (o:=.cells #[.slice Ao61 t252.length co61] 44 (0,0)) (by (with_reducible repeat first|refine zl_ ?_ _|refine zr_ ?_|refine zk_ ?_ _);refine blk_put (cs:=#[.slice none 0 0]) ?_ 0 _ rfl;(with_reducible repeat first|refine zl_ ?_ _|refine zr_ ?_|refine zk_ ?_ _);exact BK255.out) hb);have n4_:=zm_ (below_step (by repeat (first|(with_reducible first|exact HB.out|apply za_|apply zn_|apply zd_|refine zs_ ?_ GE246.out|refine zs_ ?_ GE255.out)|exact HB.out)) hb);clear HO250;clear HO254;clear BK246;clear BK255;clear HB;have HO250:=n0_;have HO254:=n1_;have BK246:=n2_;have BK255:=n3_;have HB:=n4_;clear n0_ n1_ n2_ n3_ n4_;(try clear hb);(try clear hb2);(try clear hk);(try clear hi)))
   go_ret
   exact ⟨by first|rfl|(simp [errW_none,errW_some] <;> rfl)|(simp [*,errW_none,errW_some] <;> rfl),by repeat (first|(with_reducible first|exact HB.out|apply za_|apply zn_|apply zd_|refine zs_ ?_ GE246.out|refine zs_ ?_ GE255.out)|exact HB.out)⟩

end Go.Proofs.YtnmhggdaccbbfaaDoor.MFnExactShowExpr
