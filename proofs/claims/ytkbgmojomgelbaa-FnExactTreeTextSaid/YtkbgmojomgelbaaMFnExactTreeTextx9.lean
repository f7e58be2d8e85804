import Derived.Test.YtkbgmojomgelbaaMFnExactTreeTextx0
import Derived.Test.YtkbgmojomgelbaaMFnExactTreeTextx8
namespace Go.Proofs.Ytkbgmojomgelbaa.MFnExactTreeText
open Go.RowKit Go.Proofs.YtkbgmojomgelbaaW.PrintWords Go.Proofs.YtkbgmojomgelbaaW.PrintLast Go.Proofs.YtkbgmojomgelbaaW.PrintMore
attribute [local go_sem] max2_int min2_int max_two min_two max_three min_three max_four min_four
set_option linter.unusedVariables false
set_option linter.unusedSimpArgs false

def laws_eqSymS.l0 : Nat → List (S110) → List (S110) → Int → Option (Bool)
 |0,_,_,_ => none
 |k + 1,x0,x1,x5 => if x5 < (x0.length : Int) then (if 0 ≤ x5 then (if x5 < (x1.length : Int) then ((laws_eqSym.f k ((rd_T110 x0 x5).f0) ((rd_T110 x0 x5).f1) ((rd_T110 x0 x5).f2) ((rd_T110 x0 x5).f3) ((rd_T110 x1 x5).f0) ((rd_T110 x1 x5).f1) ((rd_T110 x1 x5).f2) ((rd_T110 x1 x5).f3)).bind fun t333 => (if t333 = true then (laws_eqSymS.l0 k x0 x1 (wrap64 (x5 + 1))) else (some false))) else (none)) else (none)) else (some true)
def laws_eqSymS.f (k : Nat) (l0 : List (S110)) (l1 : List (S110)) : Option (Bool):=if (l0.length : Int) = (l1.length : Int) then (laws_eqSymS.l0 k l0 l1 0) else (some false)
theorem laws_eqSymS.mono_l : ∀ k,(∀ y0 y1 y2,LeO (laws_eqSymS.l0 k y0 y1 y2) (laws_eqSymS.l0 (k + 1) y0 y1 y2))
 |0 => fun _ _ _ r h => by simp [laws_eqSymS.l0] at h
 |k + 1 => by
  have ih0:=laws_eqSymS.mono_l k
  ·intro y0 y1 y2
   unfold laws_eqSymS.l0
   repeat' first
   |(with_reducible exact ih0 _ _ _)
   |(with_reducible exact laws_eqSym.mono _ _ _ _ _ _ _ _ _)
   |(with_reducible exact LeO.refl _)
   |(with_reducible exact LeO.none _)
   |(with_reducible refine LeO.ite ?_ ?_)
   |(with_reducible refine LeO.bind ?_ (fun _ => ?_))
theorem laws_eqSymS.mono : ∀ a0 a1 k,LeO (laws_eqSymS.f k a0 a1) (laws_eqSymS.f (k + 1) a0 a1):=by
 intro a0 a1 k
 have ih0:=laws_eqSymS.mono_l k
 unfold laws_eqSymS.f
 repeat' first
   |(with_reducible exact ih0 _ _ _)
   |(with_reducible exact laws_eqSym.mono _ _ _ _ _ _ _ _ _)
   |(with_reducible exact LeO.refl _)
   |(with_reducible exact LeO.none _)
   |(with_reducible refine LeO.ite ?_ ?_)
   |(with_reducible refine LeO.bind ?_ (fun _ => ?_))
def laws_eqSymS.T6 : Bool × List (List Nat × List Nat):=(true,[([],[]),([],[]),([0,1],[0,1]),([2],[2]),([],[]),([],[]),([4,5],[4,5]),([6],[6]),([3,7],[3,7]),([8],[8])])
def laws_eqSymS.B6 : List Nat:=[0,0,3,7,0,0,48,112,255,511]
theorem laws_eqSymS.tab6 : rtab .any (opsOf Try.f50 6) = laws_eqSymS.T6:=by kernel_rfl
theorem laws_eqSymS.bits6 : waitsOk laws_eqSymS.T6.2 laws_eqSymS.B6 = true:=by kernel_rfl
set_option maxHeartbeats 8000000 in
set_option maxRecDepth 100000 in
theorem laws_eqSymS.calls (k : Nat) (A0 : Option Addr) (c0 : Nat) (l0 : List (S110)) (A1 : Option Addr) (c1 : Nat) (l1 : List (S110)) (r : Bool) (w : World) (hr0 : Kd.C k110 w A0 l0.length l0) (hc0 : l0.length ≤ c0) (hr1 : Kd.C k110 w A1 l1.length l1) (hc1 : l1.length ≤ c1) (h : laws_eqSymS.f k l0 l1 = some r) :
  Calls Try.prog 50 #[.slice A0 l0.length c0,.slice A1 l1.length c1] w fun e w' => e = .returned (.bool r) ∧ Below w.heap.size w w':=by
 have hu110:=Try.underlying110
 have HR0:=zm_ hr0
 have HC0:=zm_ hc0
 clear hr0 hc0
 have HR1:=zm_ hr1
 have HC1:=zm_ hc1
 clear hr1 hc1
 have HB:=zm_ (Below.refl w.heap.size w)
 have H : (if (l0.length : Int) = (l1.length : Int) then (laws_eqSymS.l0 k l0 l1 0) else (some false)) = some r:=h
 clear h
 by_cases c3 : (l0.length : Int) = (l1.length : Int)
 ·rw [if_pos c3] at H
  have c3b0 : ((l0.length : Int) == (l1.length : Int)) = true:=beq_iff_eq.mpr c3
  have c3b1 : ((l0.length : Int) != (l1.length : Int)) = false:=bne_eq_false_iff_eq.mpr c3
  have c3b2 : (l0.length == l1.length) = true:=by first|simpa using c3|(simp at c3 ⊢;omega)
  clear c3
  have H':=zm_ H
  clear H
  go_enter Try.func50,Try.ntmps50
  go_wp2
  go_loopg [5] k (fun kq v5 w' => ∃ (x5_1 : Int),v5 = .int .i64 x5_1 ∧ Aside0 (laws_eqSymS.l0 kq l0 l1 x5_1 = some r) ∧ Aside0 (kq ≤ k) ∧ Aside0 (Below w.heap.size w w'))
  case atStart => exact ⟨(0),zV_,H',⟨Nat.le_refl _⟩,⟨by repeat (first|(with_reducible first|exact HB.out|apply za_|apply zn_|apply zd_)|exact HB.out)⟩⟩
  case round =>
   clear H'
   try clear c1
   try clear p2
   try clear c3
   try clear c3b0
   try clear c3b1
   try clear c3b2
   obtain ⟨x5_1,rfl,HA,HK1,HB⟩:=hrel
   cases gk with
   |zero => exact absurd HA.out (by simp [laws_eqSymS.l0])
   |succ k1 =>
    have H:=HA.out
    clear HA
    simp only [laws_eqSymS.l0] at H
    by_cases c4 : x5_1 < (l0.length : Int)
    ·rw [if_pos c4] at H
     have c4b0 : decide (x5_1 < (l0.length : Int)) = true:=decide_eq_true c4
     clear c4
     by_cases c5 : 0 ≤ x5_1
     ·rw [if_pos c5] at H
      have c5b0 : decide (0 ≤ x5_1) = true:=decide_eq_true c5
      clear c5
      by_cases c6 : x5_1 < (l1.length : Int)
      ·rw [if_pos c6] at H
       have c6b0 : decide (x5_1 < (l1.length : Int)) = true:=decide_eq_true c6
       clear c6
       replace H:=Option.bind_eq_some_iff.mp H
       obtain ⟨t333,A70,H⟩:=H
       replace H : (if t333 = true then (laws_eqSymS.l0 k1 l0 l1 (wrap64 (x5_1 + 1))) else (some false)) = some r:=H
       have A7:=zm_ A70
       clear A70
       by_cases c8 : t333 = true
       ·subst c8
        have H1 : (laws_eqSymS.l0 k1 l0 l1 (wrap64 (x5_1 + 1))) = some r:=by rw [if_pos rfl] at H;exact H
        clear H
        have H:=H1
        clear H1
        have H':=zm_ H
        clear H
        try go_wp2
        have n0_:=zm_ (zd_ HB.out)
        clear HB
        have HB:=n0_
        clear n0_
        have p331 : 0 ≤ (x5_1 : Int):=zo_
        have q331 : x5_1 < (l0.length : Int):=zo_
        obtain ⟨ad331,A331_2,c331_2,e331,hx331_0,hx331_1,hx331_2,hx331_3,hl331_2,hi331_2⟩:=at_T110 HR0.out x5_1 p331 q331
        have hw331_3:=hx331_3
        have hw331_2:=hx331_2
        have hw331_1:=hx331_1
        have hw331_0:=hx331_0
        cases e331
        replace hx331_0:=(HB.out.cell (zb_ w _ hx331_0)).trans hx331_0
        replace hx331_1:=(HB.out.cell (zb_ w _ hx331_1)).trans hx331_1
        replace hx331_2:=(HB.out.cell (zb_ w _ hx331_2)).trans hx331_2
        replace hx331_3:=(HB.out.cell (zb_ w _ hx331_3)).trans hx331_3
        have HR331_2:=zm_ hi331_2
        have HC331_2:=zm_ hl331_2
        clear hi331_2 hl331_2
        replace p331:=eq_true p331
        replace q331:=eq_true q331
        have p332 : 0 ≤ (x5_1 : Int):=zo_
        have q332 : x5_1 < (l1.length : Int):=zo_
        obtain ⟨ad332,A332_2,c332_2,e332,hx332_0,hx332_1,hx332_2,hx332_3,hl332_2,hi332_2⟩:=at_T110 HR1.out x5_1 p332 q332
        have hw332_3:=hx332_3
        have hw332_2:=hx332_2
        have hw332_1:=hx332_1
        have hw332_0:=hx332_0
        cases e332
        replace hx332_0:=(HB.out.cell (zb_ w _ hx332_0)).trans hx332_0
        replace hx332_1:=(HB.out.cell (zb_ w _ hx332_1)).trans hx332_1
        replace hx332_2:=(HB.out.cell (zb_ w _ hx332_2)).trans hx332_2
        replace hx332_3:=(HB.out.cell (zb_ w _ hx332_3)).trans hx332_3
        have HR332_2:=zm_ hi332_2
        have HC332_2:=zm_ hl332_2
        clear hi332_2 hl332_2
        replace p332:=eq_true p332
        replace q332:=eq_true q332
        refine start_ (n:=10) (S:=fun w' => w'.cell? (ad331.add ((x5_1).toNat * 4)) = some (.int .i64 ((rd_T110 l0 x5_1).f0)) ∧ w'.cell? ⟨(ad331.add ((x5_1).toNat * 4)).block,(ad331.add ((x5_1).toNat * 4)).off + 1,none⟩ = some (.string ((rd_T110 l0 x5_1).f1)) ∧ w'.cell? ⟨(ad331.add ((x5_1).toNat * 4)).block,(ad331.add ((x5_1).toNat * 4)).off + 2,none⟩ = some (.slice A331_2 ((rd_T110 l0 x5_1).f2).length c331_2) ∧ w'.cell? ⟨(ad331.add ((x5_1).toNat * 4)).block,(ad331.add ((x5_1).toNat * 4)).off + 3,none⟩ = some (.string ((rd_T110 l0 x5_1).f3)) ∧ w'.cell? (ad332.add ((x5_1).toNat * 4)) = some (.int .i64 ((rd_T110 l1 x5_1).f0)) ∧ w'.cell? ⟨(ad332.add ((x5_1).toNat * 4)).block,(ad332.add ((x5_1).toNat * 4)).off + 1,none⟩ = some (.string ((rd_T110 l1 x5_1).f1)) ∧ w'.cell? ⟨(ad332.add ((x5_1).toNat * 4)).block,(ad332.add ((x5_1).toNat * 4)).off + 2,none⟩ = some (.slice A332_2 ((rd_T110 l1 x5_1).f2).length c332_2) ∧ w'.cell? ⟨(ad332.add ((x5_1).toNat * 4)).block,(ad332.add ((x5_1).toNat * 4)).off + 3,none⟩ = some (.string ((rd_T110 l1 x5_1).f3))) (ds:=[]) #[false,false,false,false,false,false,false,false,false,false] (by kernel_rfl) rfl rfl ⟨((HB.out.cell (zb_ w _ hw331_0)).trans hw331_0),((HB.out.cell (zb_ w _ hw331_1)).trans hw331_1),((HB.out.cell (zb_ w _ hw331_2)).trans hw331_2),((HB.out.cell (zb_ w _ hw331_3)).trans hw331_3),((HB.out.cell (zb_ w _ hw332_0)).trans hw332_0),((HB.out.cell (zb_ w _ hw332_1)).trans hw332_1),((HB.out.cell (zb_ w _ hw332_2)).trans hw332_2),((HB.out.cell (zb_ w _ hw332_3)).trans hw332_3)⟩ (fun hHeld => ?_);refine with_tabW laws_eqSymS.tab6 laws_eqSymS.bits6 (fun HT_ HW_ => ?_)
        generalize wr.drew = w9 at HB HR331_2 HR332_2 hx331_0 hx331_1 hx331_2 hx331_3 hx332_0 hx332_1 hx332_2 hx332_3 hHeld ⊢
        refine pure_ (i:=0) (N:=some 17) (v:=?_) (a':=?_) #[true,false,false,false,false,false,false,false,false,false] rfl rfl (any_of HT_.out (by kernel_rfl)) (fun _ _ _ h => h) (Or.inl ⟨by rfl,?_⟩) ?_ ?_
        rotate_left
        ·intro w'
         go_simp
         with_reducible rfl
        rotate_left
        ·simp only [Act.put,List.setIfInBounds_toArray,List.set_cons_zero,List.set_cons_succ,i64_w,i32_w,IntKind.wrap_u8]
         rfl
        refine pure_ (i:=1) (N:=some 18) (v:=?_) (a':=?_) #[true,true,false,false,false,false,false,false,false,false] rfl rfl (any_of HT_.out (by kernel_rfl)) (fun _ _ _ h => h) (Or.inl ⟨by rfl,?_⟩) ?_ ?_
        rotate_left
        ·intro w'
         go_simp
         with_reducible rfl
        rotate_left
        ·simp only [Act.put,List.setIfInBounds_toArray,List.set_cons_zero,List.set_cons_succ,i64_w,i32_w,IntKind.wrap_u8]
         rfl
        refine pure_ (i:=2) (N:=some 19) (v:=?_) (a':=?_) #[true,true,true,false,false,false,false,false,false,false] rfl rfl (any_of HT_.out (by kernel_rfl)) (fun _ _ _ h => h) (Or.inl ⟨by rfl,?_⟩) ?_ ?_
        rotate_left
        ·intro w'
         go_simp
         with_reducible rfl
        rotate_left
        ·simp only [Act.put,List.setIfInBounds_toArray,List.set_cons_zero,List.set_cons_succ,i64_w,i32_w,IntKind.wrap_u8]
         rfl
        refine pure_ (i:=4) (N:=some 21) (v:=?_) (a':=?_) #[true,true,true,false,true,false,false,false,false,false] rfl rfl (any_of HT_.out (by kernel_rfl)) (fun _ _ _ h => h) (Or.inl ⟨by rfl,?_⟩) ?_ ?_
        rotate_left
        ·intro w'
         go_simp
         with_reducible rfl
        rotate_left
        ·simp only [Act.put,List.setIfInBounds_toArray,List.set_cons_zero,List.set_cons_succ,i64_w,i32_w,IntKind.wrap_u8]
         rfl
        refine pure_ (i:=5) (N:=some 22) (v:=?_) (a':=?_) #[true,true,true,false,true,true,false,false,false,false] rfl rfl (any_of HT_.out (by kernel_rfl)) (fun _ _ _ h => h) (Or.inl ⟨by rfl,?_⟩) ?_ ?_
        rotate_left
        ·intro w'
         go_simp
         with_reducible rfl
        rotate_left
        ·simp only [Act.put,List.setIfInBounds_toArray,List.set_cons_zero,List.set_cons_succ,i64_w,i32_w,IntKind.wrap_u8]
         rfl
        refine pure_ (i:=6) (N:=some 23) (v:=?_) (a':=?_) #[true,true,true,false,true,true,true,false,false,false] rfl rfl (any_of HT_.out (by kernel_rfl)) (fun _ _ _ h => h) (Or.inl ⟨by rfl,?_⟩) ?_ ?_
        rotate_left
        ·intro w'
         go_simp
         with_reducible rfl
        rotate_left
        ·simp only [Act.put,List.setIfInBounds_toArray,List.set_cons_zero,List.set_cons_succ,i64_w,i32_w,IntKind.wrap_u8]
         rfl
        refine take_ (i:=3) (N:=some 20) (v:=?_) (a':=?_) #[true,true,true,true,true,true,true,false,false,false] rfl rfl (take_ofW HT_.out HW_.out (by kernel_rfl)) (fun _ _ _ h => h) (Or.inl ⟨by rfl,?_⟩) hHeld ?_ ?_
        rotate_left
        ·rintro w' ⟨s0,s1,s2,s3,s4,s5,s6,s7⟩
         go_simp
         with_reducible rfl
        rotate_left
        ·simp only [Act.put,List.setIfInBounds_toArray,List.set_cons_zero,List.set_cons_succ,i64_w,i32_w,IntKind.wrap_u8]
         rfl
        refine take_ (i:=7) (N:=some 24) (v:=?_) (a':=?_) #[true,true,true,true,true,true,true,true,false,false] rfl rfl (take_ofW HT_.out HW_.out (by kernel_rfl)) (fun _ _ _ h => h) (Or.inl ⟨by rfl,?_⟩) hHeld ?_ ?_
        rotate_left
        ·rintro w' ⟨s0,s1,s2,s3,s4,s5,s6,s7⟩
         go_simp
         with_reducible rfl
        rotate_left
        ·simp only [Act.put,List.setIfInBounds_toArray,List.set_cons_zero,List.set_cons_succ,i64_w,i32_w,IntKind.wrap_u8]
         rfl
        refine one_ (i:=8) (N:=some 25) #[true,true,true,true,true,true,true,true,true,false] rfl rfl (one_of HT_.out (by kernel_rfl)) (by decide) (fun K hK => ?_)
        refine goes_ Try.func53 (by kernel_rfl) rfl #[.agg #[.int .i64 ((rd_T110 l0 x5_1).f0),.string ((rd_T110 l0 x5_1).f1),.slice A331_2 ((rd_T110 l0 x5_1).f2).length c331_2,.string ((rd_T110 l0 x5_1).f3)],.agg #[.int .i64 ((rd_T110 l1 x5_1).f0),.string ((rd_T110 l1 x5_1).f1),.slice A332_2 ((rd_T110 l1 x5_1).f2).length c332_2,.string ((rd_T110 l1 x5_1).f3)]] (by rfl) rfl rfl zq_ ?_
        with_reducible refine (laws_eqSym.calls k1 ((rd_T110 l0 x5_1).f0) ((rd_T110 l0 x5_1).f1) _ _ ((rd_T110 l0 x5_1).f2) ((rd_T110 l0 x5_1).f3) ((rd_T110 l1 x5_1).f0) ((rd_T110 l1 x5_1).f1) _ _ ((rd_T110 l1 x5_1).f2) ((rd_T110 l1 x5_1).f3) true _ ?side1 ?side2 ?side3 ?side4 A7.out).mono ?_
        (case side1 => repeat (first|exact (Kd.C_below HR331_2.out HB.out)|(with_reducible refine Kd.C_alloc ?_ _)|(with_reducible refine Kd.C_drewN ?_ _)|(with_reducible refine Kd.C_drew ?_)))
        (case side2 => exact HC331_2.out)
        (case side3 => repeat (first|exact (Kd.C_below HR332_2.out HB.out)|(with_reducible refine Kd.C_alloc ?_ _)|(with_reducible refine Kd.C_drewN ?_ _)|(with_reducible refine Kd.C_drew ?_)))
        (case side4 => exact HC332_2.out)
        rintro e w10 ⟨rfl,hb⟩
        refine ⟨_,rfl,?_⟩
        have n0_:=zm_ (below_step zB_ hb)
        clear HB
        have HB:=n0_
        clear n0_
        (try clear hb)
        (try clear hb2)
        (try clear hk)
        (try clear hi)
        refine hK.out _ _ ⟨((HB.out.cell (zb_ w _ hw331_0)).trans hw331_0),((HB.out.cell (zb_ w _ hw331_1)).trans hw331_1),((HB.out.cell (zb_ w _ hw331_2)).trans hw331_2),((HB.out.cell (zb_ w _ hw331_3)).trans hw331_3),((HB.out.cell (zb_ w _ hw332_0)).trans hw332_0),((HB.out.cell (zb_ w _ hw332_1)).trans hw332_1),((HB.out.cell (zb_ w _ hw332_2)).trans hw332_2),((HB.out.cell (zb_ w _ hw332_3)).trans hw332_3)⟩ (fun hHeld => ?_)
        clear hK K
        refine norm_ (a':=?_) ?_ ?_
        rotate_left
        ·show Act.put _ (some 25) _ = _
         simp only [Act.put,List.setIfInBounds_toArray,List.set_cons_zero,List.set_cons_succ,i64_w,i32_w,IntKind.wrap_u8]
         rfl
        refine pure_ (i:=9) (N:=some 26) (v:=?_) (a':=?_) #[true,true,true,true,true,true,true,true,true,true] rfl rfl (any_of HT_.out (by kernel_rfl)) (fun _ _ _ h => h) (Or.inl ⟨by rfl,?_⟩) ?_ ?_
        rotate_left
        ·intro w'
         go_simp
         with_reducible rfl
        rotate_left
        ·simp only [Act.put,List.setIfInBounds_toArray,List.set_cons_zero,List.set_cons_succ,i64_w,i32_w,IntKind.wrap_u8]
         rfl
        refine done_ (done_of HT_.out (by kernel_rfl)) ?_
        try go_wp2
        go_roundg k1
        case measure => have:=HK1.out;omega
        case rel => exact ⟨(wrap64 (x5_1 + 1)),zV_,H',⟨by have:=HK1.out;omega⟩,⟨by repeat (first|(with_reducible first|exact HB.out|apply za_|apply zn_|apply zd_)|exact HB.out)⟩⟩
       ·replace c8:=Bool.eq_false_iff.mpr c8
        subst c8
        have H1 : (some false) = some r:=by rw [if_neg (show ¬ (false = true) by decide)] at H;exact H
        clear H
        have H:=H1
        clear H1
        obtain rfl:=Option.some.inj H
        try go_wp2
        have n0_:=zm_ (zd_ HB.out)
        clear HB
        have HB:=n0_
        clear n0_
        have p331 : 0 ≤ (x5_1 : Int):=zo_
        have q331 : x5_1 < (l0.length : Int):=zo_
        obtain ⟨ad331,A331_2,c331_2,e331,hx331_0,hx331_1,hx331_2,hx331_3,hl331_2,hi331_2⟩:=at_T110 HR0.out x5_1 p331 q331
        have hw331_3:=hx331_3
        have hw331_2:=hx331_2
        have hw331_1:=hx331_1
        have hw331_0:=hx331_0
        cases e331
        replace hx331_0:=(HB.out.cell (zb_ w _ hx331_0)).trans hx331_0
        replace hx331_1:=(HB.out.cell (zb_ w _ hx331_1)).trans hx331_1
        replace hx331_2:=(HB.out.cell (zb_ w _ hx331_2)).trans hx331_2
        replace hx331_3:=(HB.out.cell (zb_ w _ hx331_3)).trans hx331_3
        have HR331_2:=zm_ hi331_2
        have HC331_2:=zm_ hl331_2
        clear hi331_2 hl331_2
        replace p331:=eq_true p331
        replace q331:=eq_true q331
        have p332 : 0 ≤ (x5_1 : Int):=zo_
        have q332 : x5_1 < (l1.length : Int):=zo_
        obtain ⟨ad332,A332_2,c332_2,e332,hx332_0,hx332_1,hx332_2,hx332_3,hl332_2,hi332_2⟩:=at_T110 HR1.out x5_1 p332 q332
        have hw332_3:=hx332_3
        have hw332_2:=hx332_2
        have hw332_1:=hx332_1
        have hw332_0:=hx332_0
        cases e332
        replace hx332_0:=(HB.out.cell (zb_ w _ hx332_0)).trans hx332_0
        replace hx332_1:=(HB.out.cell (zb_ w _ hx332_1)).trans hx332_1
        replace hx332_2:=(HB.out.cell (zb_ w _ hx332_2)).trans hx332_2
        replace hx332_3:=(HB.out.cell (zb_ w _ hx332_3)).trans hx332_3
        have HR332_2:=zm_ hi332_2
        have HC332_2:=zm_ hl332_2
        clear hi332_2 hl332_2
        replace p332:=eq_true p332
        replace q332:=eq_true q332
        refine start_ (n:=10) (S:=fun w' => w'.cell? (ad331.add ((x5_1).toNat * 4)) = some (.int .i64 ((rd_T110 l0 x5_1).f0)) ∧ w'.cell? ⟨(ad331.add ((x5_1).toNat * 4)).block,(ad331.add ((x5_1).toNat * 4)).off + 1,none⟩ = some (.string ((rd_T110 l0 x5_1).f1)) ∧ w'.cell? ⟨(ad331.add ((x5_1).toNat * 4)).block,(ad331.add ((x5_1).toNat * 4)).off + 2,none⟩ = some (.slice A331_2 ((rd_T110 l0 x5_1).f2).length c331_2) ∧ w'.cell? ⟨(ad331.add ((x5_1).toNat * 4)).block,(ad331.add ((x5_1).toNat * 4)).off + 3,none⟩ = some (.string ((rd_T110 l0 x5_1).f3)) ∧ w'.cell? (ad332.add ((x5_1).toNat * 4)) = some (.int .i64 ((rd_T110 l1 x5_1).f0)) ∧ w'.cell? ⟨(ad332.add ((x5_1).toNat * 4)).block,(ad332.add ((x5_1).toNat * 4)).off + 1,none⟩ = some (.string ((rd_T110 l1 x5_1).f1)) ∧ w'.cell? ⟨(ad332.add ((x5_1).toNat * 4)).block,(ad332.add ((x5_1).toNat * 4)).off + 2,none⟩ = some (.slice A332_2 ((rd_T110 l1 x5_1).f2).length c332_2) ∧ w'.cell? ⟨(ad332.add ((x5_1).toNat * 4)).block,(ad332.add ((x5_1).toNat * 4)).off + 3,none⟩ = some (.string ((rd_T110 l1 x5_1).f3))) (ds:=[]) #[false,false,false,false,false,false,false,false,false,false] (by kernel_rfl) rfl rfl ⟨((HB.out.cell (zb_ w _ hw331_0)).trans hw331_0),((HB.out.cell (zb_ w _ hw331_1)).trans hw331_1),((HB.out.cell (zb_ w _ hw331_2)).trans hw331_2),((HB.out.cell (zb_ w _ hw331_3)).trans hw331_3),((HB.out.cell (zb_ w _ hw332_0)).trans hw332_0),((HB.out.cell (zb_ w _ hw332_1)).trans hw332_1),((HB.out.cell (zb_ w _ hw332_2)).trans hw332_2),((HB.out.cell (zb_ w _ hw332_3)).trans hw332_3)⟩ (fun hHeld => ?_);refine with_tabW laws_eqSymS.tab6 laws_eqSymS.bits6 (fun HT_ HW_ => ?_)
        generalize wr.drew = w11 at HB HR331_2 HR332_2 hx331_0 hx331_1 hx331_2 hx331_3 hx332_0 hx332_1 hx332_2 hx332_3 hHeld ⊢
        refine pure_ (i:=0) (N:=some 17) (v:=?_) (a':=?_) #[true,false,false,false,false,false,false,false,false,false] rfl rfl (any_of HT_.out (by kernel_rfl)) (fun _ _ _ h => h) (Or.inl ⟨by rfl,?_⟩) ?_ ?_
        rotate_left
        ·intro w'
         go_simp
         with_reducible rfl
        rotate_left
        ·simp only [Act.put,List.setIfInBounds_toArray,List.set_cons_zero,List.set_cons_succ,i64_w,i32_w,IntKind.wrap_u8]
         rfl
        refine pure_ (i:=1) (N:=some 18) (v:=?_) (a':=?_) #[true,true,false,false,false,false,false,false,false,false] rfl rfl (any_of HT_.out (by kernel_rfl)) (fun _ _ _ h => h) (Or.inl ⟨by rfl,?_⟩) ?_ ?_
        rotate_left
        ·intro w'
         go_simp
         with_reducible rfl
        rotate_left
        ·simp only [Act.put,List.setIfInBounds_toArray,List.set_cons_zero,List.set_cons_succ,i64_w,i32_w,IntKind.wrap_u8]
         rfl
        refine pure_ (i:=2) (N:=some 19) (v:=?_) (a':=?_) #[true,true,true,false,false,false,false,false,false,false] rfl rfl (any_of HT_.out (by kernel_rfl)) (fun _ _ _ h => h) (Or.inl ⟨by rfl,?_⟩) ?_ ?_
        rotate_left
        ·intro w'
         go_simp
         with_reducible rfl
        rotate_left
        ·simp only [Act.put,List.setIfInBounds_toArray,List.set_cons_zero,List.set_cons_succ,i64_w,i32_w,IntKind.wrap_u8]
         rfl
        refine pure_ (i:=4) (N:=some 21) (v:=?_) (a':=?_) #[true,true,true,false,true,false,false,false,false,false] rfl rfl (any_of HT_.out (by kernel_rfl)) (fun _ _ _ h => h) (Or.inl ⟨by rfl,?_⟩) ?_ ?_
        rotate_left
        ·intro w'
         go_simp
         with_reducible rfl
        rotate_left
        ·simp only [Act.put,List.setIfInBounds_toArray,List.set_cons_zero,List.set_cons_succ,i64_w,i32_w,IntKind.wrap_u8]
         rfl
        refine pure_ (i:=5) (N:=some 22) (v:=?_) (a':=?_) #[true,true,true,false,true,true,false,false,false,false] rfl rfl (any_of HT_.out (by kernel_rfl)) (fun _ _ _ h => h) (Or.inl ⟨by rfl,?_⟩) ?_ ?_
        rotate_left
        ·intro w'
         go_simp
         with_reducible rfl
        rotate_left
        ·simp only [Act.put,List.setIfInBounds_toArray,List.set_cons_zero,List.set_cons_succ,i64_w,i32_w,IntKind.wrap_u8]
         rfl
        refine pure_ (i:=6) (N:=some 23) (v:=?_) (a':=?_) #[true,true,true,false,true,true,true,false,false,false] rfl rfl (any_of HT_.out (by kernel_rfl)) (fun _ _ _ h => h) (Or.inl ⟨by rfl,?_⟩) ?_ ?_
        rotate_left
        ·intro w'
         go_simp
         with_reducible rfl
        rotate_left
        ·simp only [Act.put,List.setIfInBounds_toArray,List.set_cons_zero,List.set_cons_succ,i64_w,i32_w,IntKind.wrap_u8]
         rfl
        refine take_ (i:=3) (N:=some 20) (v:=?_) (a':=?_) #[true,true,true,true,true,true,true,false,false,false] rfl rfl (take_ofW HT_.out HW_.out (by kernel_rfl)) (fun _ _ _ h => h) (Or.inl ⟨by rfl,?_⟩) hHeld ?_ ?_
        rotate_left
        ·rintro w' ⟨s0,s1,s2,s3,s4,s5,s6,s7⟩
         go_simp
         with_reducible rfl
        rotate_left
        ·simp only [Act.put,List.setIfInBounds_toArray,List.set_cons_zero,List.set_cons_succ,i64_w,i32_w,IntKind.wrap_u8]
         rfl
        refine take_ (i:=7) (N:=some 24) (v:=?_) (a':=?_) #[true,true,true,true,true,true,true,true,false,false] rfl rfl (take_ofW HT_.out HW_.out (by kernel_rfl)) (fun _ _ _ h => h) (Or.inl ⟨by rfl,?_⟩) hHeld ?_ ?_
        rotate_left
        ·rintro w' ⟨s0,s1,s2,s3,s4,s5,s6,s7⟩
         go_simp
         with_reducible rfl
        rotate_left
        ·simp only [Act.put,List.setIfInBounds_toArray,List.set_cons_zero,List.set_cons_succ,i64_w,i32_w,IntKind.wrap_u8]
         rfl
        refine one_ (i:=8) (N:=some 25) #[true,true,true,true,true,true,true,true,true,false] rfl rfl (one_of HT_.out (by kernel_rfl)) (by decide) (fun K hK => ?_)
        refine goes_ Try.func53 (by kernel_rfl) rfl #[.agg #[.int .i64 ((rd_T110 l0 x5_1).f0),.string ((rd_T110 l0 x5_1).f1),.slice A331_2 ((rd_T110 l0 x5_1).f2).length c331_2,.string ((rd_T110 l0 x5_1).f3)],.agg #[.int .i64 ((rd_T110 l1 x5_1).f0),.string ((rd_T110 l1 x5_1).f1),.slice A332_2 ((rd_T110 l1 x5_1).f2).length c332_2,.string ((rd_T110 l1 x5_1).f3)]] (by rfl) rfl rfl zq_ ?_
        with_reducible refine (laws_eqSym.calls k1 ((rd_T110 l0 x5_1).f0) ((rd_T110 l0 x5_1).f1) _ _ ((rd_T110 l0 x5_1).f2) ((rd_T110 l0 x5_1).f3) ((rd_T110 l1 x5_1).f0) ((rd_T110 l1 x5_1).f1) _ _ ((rd_T110 l1 x5_1).f2) ((rd_T110 l1 x5_1).f3) false _ ?side1 ?side2 ?side3 ?side4 A7.out).mono ?_
        (case side1 => repeat (first|exact (Kd.C_below HR331_2.out HB.out)|(with_reducible refine Kd.C_alloc ?_ _)|(with_reducible refine Kd.C_drewN ?_ _)|(with_reducible refine Kd.C_drew ?_)))
        (case side2 => exact HC331_2.out)
        (case side3 => repeat (first|exact (Kd.C_below HR332_2.out HB.out)|(with_reducible refine Kd.C_alloc ?_ _)|(with_reducible refine Kd.C_drewN ?_ _)|(with_reducible refine Kd.C_drew ?_)))
        (case side4 => exact HC332_2.out)
        rintro e w12 ⟨rfl,hb⟩
        refine ⟨_,rfl,?_⟩
        have n0_:=zm_ (below_step zB_ hb)
        clear HB
        have HB:=n0_
        clear n0_
        (try clear hb)
        (try clear hb2)
        (try clear hk)
        (try clear hi)
        refine hK.out _ _ ⟨((HB.out.cell (zb_ w _ hw331_0)).trans hw331_0),((HB.out.cell (zb_ w _ hw331_1)).trans hw331_1),((HB.out.cell (zb_ w _ hw331_2)).trans hw331_2),((HB.out.cell (zb_ w _ hw331_3)).trans hw331_3),((HB.out.cell (zb_ w _ hw332_0)).trans hw332_0),((HB.out.cell (zb_ w _ hw332_1)).trans hw332_1),((HB.out.cell (zb_ w _ hw332_2)).trans hw332_2),((HB.out.cell (zb_ w _ hw332_3)).trans hw332_3)⟩ (fun hHeld => ?_)
        clear hK K
        refine norm_ (a':=?_) ?_ ?_
        rotate_left
        ·show Act.put _ (some 25) _ = _
         simp only [Act.put,List.setIfInBounds_toArray,List.set_cons_zero,List.set_cons_succ,i64_w,i32_w,IntKind.wrap_u8]
         rfl
        refine pure_ (i:=9) (N:=some 26) (v:=?_) (a':=?_) #[true,true,true,true,true,true,true,true,true,true] rfl rfl (any_of HT_.out (by kernel_rfl)) (fun _ _ _ h => h) (Or.inl ⟨by rfl,?_⟩) ?_ ?_
        rotate_left
        ·intro w'
         go_simp
         with_reducible rfl
        rotate_left
        ·simp only [Act.put,List.setIfInBounds_toArray,List.set_cons_zero,List.set_cons_succ,i64_w,i32_w,IntKind.wrap_u8]
         rfl
        refine done_ (done_of HT_.out (by kernel_rfl)) ?_
        try go_wp2
        go_ret
        exact ⟨zE_,by repeat (first|(with_reducible first|exact HB.out|apply za_|apply zn_|apply zd_)|exact HB.out)⟩
      ·rw [if_neg c6] at H
       exact absurd H (by simp)
     ·rw [if_neg c5] at H
      exact absurd H (by simp)
    ·rw [if_neg c4] at H
     have c4b0 : decide (x5_1 < (l0.length : Int)) = false:=decide_eq_false c4
     clear c4
     obtain rfl:=Option.some.inj H
     go_wp2
     go_ret
     exact ⟨zE_,by repeat (first|(with_reducible first|exact HB.out|apply za_|apply zn_|apply zd_)|exact HB.out)⟩
 ·rw [if_neg c3] at H
  have c3b0 : ((l0.length : Int) == (l1.length : Int)) = false:=beq_eq_false_iff_ne.mpr c3
  have c3b1 : ((l0.length : Int) != (l1.length : Int)) = true:=bne_iff_ne.mpr c3
  have c3b2 : (l0.length == l1.length) = false:=by first|simpa using c3|(simp at c3 ⊢;omega)
  obtain rfl:=Option.some.inj H
  go_enter Try.func50,Try.ntmps50
  go_wp2
  go_ret
  exact ⟨zE_,by repeat (first|(with_reducible first|exact HB.out|apply za_|apply zn_|apply zd_)|exact HB.out)⟩

def laws_eqAlt.f (k : Nat) (l0_0 : List (S110)) (l1_0 : List (S110)) : Option (Bool):=(laws_eqSymS.f k l0_0 l1_0).bind fun t336 => (if t336 = true then (some true) else (some false))
theorem laws_eqAlt.mono : ∀ a0 a1 k,LeO (laws_eqAlt.f k a0 a1) (laws_eqAlt.f (k + 1) a0 a1):=by
 intro a0 a1 k
 unfold laws_eqAlt.f
 repeat' first
   |(with_reducible exact laws_eqSymS.mono _ _ _)
   |(with_reducible exact LeO.refl _)
   |(with_reducible exact LeO.none _)
   |(with_reducible refine LeO.ite ?_ ?_)
   |(with_reducible refine LeO.bind ?_ (fun _ => ?_))
set_option maxHeartbeats 8000000 in
set_option maxRecDepth 100000 in
theorem laws_eqAlt.calls (k : Nat) (A0_0 : Option Addr) (c0_0 : Nat) (l0_0 : List (S110)) (A1_0 : Option Addr) (c1_0 : Nat) (l1_0 : List (S110)) (r : Bool) (w : World) (hr0_0 : Kd.C k110 w A0_0 l0_0.length l0_0) (hc0_0 : l0_0.length ≤ c0_0) (hr1_0 : Kd.C k110 w A1_0 l1_0.length l1_0) (hc1_0 : l1_0.length ≤ c1_0) (h : laws_eqAlt.f k l0_0 l1_0 = some r) :
  Calls Try.prog 47 #[.agg #[.slice A0_0 l0_0.length c0_0],.agg #[.slice A1_0 l1_0.length c1_0]] w fun e w' => e = .returned (.bool r) ∧ Below w.heap.size w w':=by
 have hu95:=Try.underlying95
 have HR0_0:=zm_ hr0_0
 have HC0_0:=zm_ hc0_0
 clear hr0_0 hc0_0
 have HR1_0:=zm_ hr1_0
 have HC1_0:=zm_ hc1_0
 clear hr1_0 hc1_0
 have HB:=zm_ (Below.refl w.heap.size w)
 have H : ((laws_eqSymS.f k l0_0 l1_0).bind fun t336 => (if t336 = true then (some true) else (some false))) = some r:=h
 clear h
 replace H:=Option.bind_eq_some_iff.mp H
 obtain ⟨t336,A30,H⟩:=H
 replace H : (if t336 = true then (some true) else (some false)) = some r:=H
 have A3:=zm_ A30
 clear A30
 by_cases c4 : t336 = true
 ·subst c4
  have H1 : (some true) = some r:=by rw [if_pos rfl] at H;exact H
  clear H
  have H:=H1
  clear H1
  obtain rfl:=Option.some.inj H
  go_enter Try.func47,Try.ntmps47
  go_wp2_with (first|((with_reducible refine gate_dst (N:=2) rfl ?_);refine box_event ?hg (N:=2) ?hd (cs:=#[.slice A0_0 l0_0.length c0_0]) (t:=95) ?hr ?_;(case hd => rfl);(case hg => rfl);(case hr => first|(go_simp;done)|(go_simp;rfl));intro gb334 hg w5 hbox hb;have n0_:=zm_ (below_step zB_ hb);have n1_:=zm_ (hbox);have n2_:=zm_ ((by rw [hg];exact (below_size zB_) : w.heap.size ≤ gb334));have n3_:=zm_ ((by rw [hg];exact (below_size zB_) : w.heap.size ≤ gb334));clear HB;have HB:=n0_;have BK334:=n1_;have GW334:=n2_;have GE334:=n3_;clear n0_ n1_ n2_ n3_;clear hb hbox hg)|((with_reducible refine gate_dst (N:=3) rfl ?_);refine box_event ?hg (N:=3) ?hd (cs:=#[.slice A1_0 l1_0.length c1_0]) (t:=95) ?hr ?_;(case hd => rfl);(case hg => rfl);(case hr => first|(go_simp;done)|(go_simp;rfl));intro gb335 hg w6 hbox hb;have n0_:=zm_ (blk_below (g:=gb334) (o:=.cells #[.slice A0_0 l0_0.length c0_0] 95 (0,0)) (by (with_reducible repeat first|refine zl_ ?_ _|refine zr_ ?_|refine zk_ ?_ _);exact BK334.out) hb);have n1_:=zm_ (below_step (by repeat (first|(with_reducible first|exact HB.out|apply za_|apply zn_|apply zd_|refine zs_ ?_ GE334.out)|exact HB.out)) hb);have n2_:=zm_ (hbox);have n3_:=zm_ ((by rw [hg];exact (below_size (by repeat (first|(with_reducible first|exact HB.out|apply za_|apply zn_|apply zd_|refine zs_ ?_ GE334.out)|exact HB.out))) : w.heap.size ≤ gb335));have n4_:=zm_ ((by rw [hg];exact (below_size (by repeat (first|(with_reducible first|exact HB.out|apply za_|apply zn_|apply zd_|refine zs_ ?_ GE334.out)|exact HB.out))) : w.heap.size ≤ gb335));have n5_:=zm_ ((by rw [hg];exact Nat.ne_of_lt (blk_lt (g:=gb334) (o:=.cells #[.slice A0_0 l0_0.length c0_0] 95 (0,0)) (by (with_reducible repeat first|refine zl_ ?_ _|refine zr_ ?_|refine zk_ ?_ _);exact BK334.out)) : gb334 ≠ gb335));have n6_:=zm_ ((by rw [hg];exact Nat.ne_of_gt (blk_lt (g:=gb334) (o:=.cells #[.slice A0_0 l0_0.length c0_0] 95 (0,0)) (by (with_reducible repeat first|refine zl_ ?_ _|refine zr_ ?_|refine zk_ ?_ _);exact BK334.out)) : gb335 ≠ gb334));clear BK334;clear HB;have BK334:=n0_;have HB:=n1_;have BK335:=n2_;have GW335:=n3_;have GE335:=n4_;have NB334_335:=n5_;have NB335_334:=n6_;clear n0_ n1_ n2_ n3_ n4_ n5_ n6_;clear hb hbox hg;have hnb7:=NB334_335.out;have hnc7:=NB335_334.out;have hcz8_0 : w6.cell? ⟨gb334,0,none⟩ = some (.slice A0_0 l0_0.length c0_0):=(zc_ BK334.out 0).trans rfl;have hfz8_0:=zf_ BK334.out 0;have hcz9_0 : w6.cell? ⟨gb335,0,none⟩ = some (.slice A1_0 l1_0.length c1_0):=(zc_ BK335.out 0).trans rfl;have hfz9_0:=zf_ BK335.out 0)|((with_reducible refine gate_callee (f:=50) rfl ?_);refine goesL_ (some 9) rfl rfl Try.func50 (by kernel_rfl) rfl #[.slice A0_0 l0_0.length c0_0,.slice A1_0 l1_0.length c1_0] rfl zq_ ?_;(with_reducible refine (laws_eqSymS.calls k _ _ l0_0 _ _ l1_0 true _ ?side1 ?side2 ?side3 ?side4 A3.out).mono ?_);(case side1 => repeat (first|exact (Kd.C_below HR0_0.out HB.out)|(with_reducible refine Kd.C_alloc ?_ _)|(with_reducible refine Kd.C_drewN ?_ _)|(with_reducible refine Kd.C_drew ?_)));(case side2 => exact HC0_0.out);(case side3 => repeat (first|exact (Kd.C_below HR1_0.out HB.out)|(with_reducible refine Kd.C_alloc ?_ _)|(with_reducible refine Kd.C_drewN ?_ _)|(with_reducible refine Kd.C_drew ?_)));(case side4 => exact HC1_0.out);rintro e w10 ⟨rfl,hb⟩;refine ⟨_,rfl,?_⟩;have n0_:=zm_ (blk_below (g:=gb334) (o:=.cells #[.slice A0_0 l0_0.length c0_0] 95 (0,0)) (by (with_reducible repeat first|refine zl_ ?_ _|refine zr_ ?_|refine zk_ ?_ _);exact BK334.out) hb);have n1_:=zm_ (blk_below (g:=gb335) (o:=.cells #[.slice A1_0 l1_0.length c1_0] 95 (0,0)) (by (with_reducible repeat first|refine zl_ ?_ _|refine zr_ ?_|refine zk_ ?_ _);exact BK335.out) hb);have n2_:=zm_ (below_step (by repeat (first|(with_reducible first|exact HB.out|apply za_|apply zn_|apply zd_|refine zs_ ?_ GE334.out|refine zs_ ?_ GE335.out)|exact HB.out)) hb);clear BK334;clear BK335;clear HB;have BK334:=n0_;have BK335:=n1_;have HB:=n2_;clear n0_ n1_ n2_;(try clear hb)))
  go_ret
  exact ⟨zE_,by repeat (first|(with_reducible first|exact HB.out|apply za_|apply zn_|apply zd_|refine zs_ ?_ GE334.out|refine zs_ ?_ GE335.out)|exact HB.out)⟩
 ·replace c4:=Bool.eq_false_iff.mpr c4
  subst c4
  have H1 : (some false) = some r:=by rw [if_neg (show ¬ (false = true) by decide)] at H;exact H
  clear H
  have H:=H1
  clear H1
  obtain rfl:=Option.some.inj H
  go_enter Try.func47,Try.ntmps47
  go_wp2_with (first|((with_reducible refine gate_dst (N:=2) rfl ?_);refine box_event ?hg (N:=2) ?hd (cs:=#[.slice A0_0 l0_0.length c0_0]) (t:=95) ?hr ?_;(case hd => rfl);(case hg => rfl);(case hr => first|(go_simp;done)|(go_simp;rfl));intro gb334 hg w11 hbox hb;have n0_:=zm_ (below_step zB_ hb);have n1_:=zm_ (hbox);have n2_:=zm_ ((by rw [hg];exact (below_size zB_) : w.heap.size ≤ gb334));have n3_:=zm_ ((by rw [hg];exact (below_size zB_) : w.heap.size ≤ gb334));clear HB;have HB:=n0_;have BK334:=n1_;have GW334:=n2_;have GE334:=n3_;clear n0_ n1_ n2_ n3_;clear hb hbox hg)|((with_reducible refine gate_dst (N:=3) rfl ?_);refine box_event ?hg (N:=3) ?hd (cs:=#[.slice A1_0 l1_0.length c1_0]) (t:=95) ?hr ?_;(case hd => rfl);(case hg => rfl);(case hr => first|(go_simp;done)|(go_simp;rfl));intro gb335 hg w12 hbox hb;have n0_:=zm_ (blk_below (g:=gb334) (o:=.cells #[.slice A0_0 l0_0.length c0_0] 95 (0,0)) (by (with_reducible repeat first|refine zl_ ?_ _|refine zr_ ?_|refine zk_ ?_ _);exact BK334.out) hb);have n1_:=zm_ (below_step (by repeat (first|(with_reducible first|exact HB.out|apply za_|apply zn_|apply zd_|refine zs_ ?_ GE334.out)|exact HB.out)) hb);have n2_:=zm_ (hbox);have n3_:=zm_ ((by rw [hg];exact (below_size (by repeat (first|(with_reducible first|exact HB.out|apply za_|apply zn_|apply zd_|refine zs_ ?_ GE334.out)|exact HB.out))) : w.heap.size ≤ gb335));have n4_:=zm_ ((by rw [hg];exact (below_size (by repeat (first|(with_reducible first|exact HB.out|apply za_|apply zn_|apply zd_|refine zs_ ?_ GE334.out)|exact HB.out))) : w.heap.size ≤ gb335));have n5_:=zm_ ((by rw [hg];exact Nat.ne_of_lt (blk_lt (g:=gb334) (o:=.cells #[.slice A0_0 l0_0.length c0_0] 95 (0,0)) (by (with_reducible repeat first|refine zl_ ?_ _|refine zr_ ?_|refine zk_ ?_ _);exact BK334.out)) : gb334 ≠ gb335));have n6_:=zm_ ((by rw [hg];exact Nat.ne_of_gt (blk_lt (g:=gb334) (o:=.cells #[.slice A0_0 l0_0.length c0_0] 95 (0,0)) (by (with_reducible repeat first|refine zl_ ?_ _|refine zr_ ?_|refine zk_ ?_ _);exact BK334.out)) : gb335 ≠ gb334));clear BK334;clear HB;have BK334:=n0_;have HB:=n1_;have BK335:=n2_;have GW335:=n3_;have GE335:=n4_;have NB334_335:=n5_;have NB335_334:=n6_;clear n0_ n1_ n2_ n3_ n4_ n5_ n6_;clear hb hbox hg;have hnb13:=NB334_335.out;have hnc13:=NB335_334.out;have hcz14_0 : w12.cell? ⟨gb334,0,none⟩ = some (.slice A0_0 l0_0.length c0_0):=(zc_ BK334.out 0).trans rfl;have hfz14_0:=zf_ BK334.out 0;have hcz15_0 : w12.cell? ⟨gb335,0,none⟩ = some (.slice A1_0 l1_0.length c1_0):=(zc_ BK335.out 0).trans rfl;have hfz15_0:=zf_ BK335.out 0)|((with_reducible refine gate_callee (f:=50) rfl ?_);refine goesL_ (some 9) rfl rfl Try.func50 (by kernel_rfl) rfl #[.slice A0_0 l0_0.length c0_0,.slice A1_0 l1_0.length c1_0] rfl zq_ ?_;(with_reducible refine (laws_eqSymS.calls k _ _ l0_0 _ _ l1_0 false _ ?side1 ?side2 ?side3 ?side4 A3.out).mono ?_);(case side1 => repeat (first|exact (Kd.C_below HR0_0.out HB.out)|(with_reducible refine Kd.C_alloc ?_ _)|(with_reducible refine Kd.C_drewN ?_ _)|(with_reducible refine Kd.C_drew ?_)));(case side2 => exact HC0_0.out);(case side3 => repeat (first|exact (Kd.C_below HR1_0.out HB.out)|(with_reducible refine Kd.C_alloc ?_ _)|(with_reducible refine Kd.C_drewN ?_ _)|(with_reducible refine Kd.C_drew ?_)));(case side4 => exact HC1_0.out);rintro e w16 ⟨rfl,hb⟩;refine ⟨_,rfl,?_⟩;have n0_:=zm_ (blk_below (g:=gb334) (o:=.cells #[.slice A0_0 l0_0.length c0_0] 95 (0,0)) (by (with_reducible repeat first|refine zl_ ?_ _|refine zr_ ?_|refine zk_ ?_ _);exact BK334.out) hb);have n1_:=zm_ (blk_below (g:=gb335) (o:=.cells #[.slice A1_0 l1_0.length c1_0] 95 (0,0)) (by (with_reducible repeat first|refine zl_ ?_ _|refine zr_ ?_|refine zk_ ?_ _);exact BK335.out) hb);have n2_:=zm_ (below_step (by repeat (first|(with_reducible first|exact HB.out|apply za_|apply zn_|apply zd_|refine zs_ ?_ GE334.out|refine zs_ ?_ GE335.out)|exact HB.out)) hb);clear BK334;clear BK335;clear HB;have BK334:=n0_;have BK335:=n1_;have HB:=n2_;clear n0_ n1_ n2_;(try clear hb)))
  go_ret
  exact ⟨zE_,by repeat (first|(with_reducible first|exact HB.out|apply za_|apply zn_|apply zd_|refine zs_ ?_ GE334.out|refine zs_ ?_ GE335.out)|exact HB.out)⟩

def laws_eqAltS.l0 : Nat → List (S95) → List (S95) → Int → Option (Bool)
 |0,_,_,_ => none
 |k + 1,x0,x1,x5 => if x5 < (x0.length : Int) then (if 0 ≤ x5 then (if x5 < (x1.length : Int) then ((laws_eqAlt.f k ((rd_T95 x0 x5).f0) ((rd_T95 x1 x5).f0)).bind fun t339 => (if t339 = true then (laws_eqAltS.l0 k x0 x1 (wrap64 (x5 + 1))) else (some false))) else (none)) else (none)) else (some true)
def laws_eqAltS.f (k : Nat) (l0 : List (S95)) (l1 : List (S95)) : Option (Bool):=if (l0.length : Int) = (l1.length : Int) then (laws_eqAltS.l0 k l0 l1 0) else (some false)
theorem laws_eqAltS.mono_l : ∀ k,(∀ y0 y1 y2,LeO (laws_eqAltS.l0 k y0 y1 y2) (laws_eqAltS.l0 (k + 1) y0 y1 y2))
 |0 => fun _ _ _ r h => by simp [laws_eqAltS.l0] at h
 |k + 1 => by
  have ih0:=laws_eqAltS.mono_l k
  ·intro y0 y1 y2
   unfold laws_eqAltS.l0
   repeat' first
   |(with_reducible exact ih0 _ _ _)
   |(with_reducible exact laws_eqAlt.mono _ _ _)
   |(with_reducible exact LeO.refl _)
   |(with_reducible exact LeO.none _)
   |(with_reducible refine LeO.ite ?_ ?_)
   |(with_reducible refine LeO.bind ?_ (fun _ => ?_))
theorem laws_eqAltS.mono : ∀ a0 a1 k,LeO (laws_eqAltS.f k a0 a1) (laws_eqAltS.f (k + 1) a0 a1):=by
 intro a0 a1 k
 have ih0:=laws_eqAltS.mono_l k
 unfold laws_eqAltS.f
 repeat' first
   |(with_reducible exact ih0 _ _ _)
   |(with_reducible exact laws_eqAlt.mono _ _ _)
   |(with_reducible exact LeO.refl _)
   |(with_reducible exact LeO.none _)
   |(with_reducible refine LeO.ite ?_ ?_)
   |(with_reducible refine LeO.bind ?_ (fun _ => ?_))
def laws_eqAltS.T6 : Bool × List (List Nat × List Nat):=(true,[([],[]),([],[]),([0,1],[0,1]),([2],[2]),([],[]),([],[]),([4,5],[4,5]),([6],[6]),([3,7],[3,7]),([8],[8])])
def laws_eqAltS.B6 : List Nat:=[0,0,3,7,0,0,48,112,255,511]
theorem laws_eqAltS.tab6 : rtab .any (opsOf Try.f41 6) = laws_eqAltS.T6:=by kernel_rfl
theorem laws_eqAltS.bits6 : waitsOk laws_eqAltS.T6.2 laws_eqAltS.B6 = true:=by kernel_rfl
set_option maxHeartbeats 8000000 in
set_option maxRecDepth 100000 in
theorem laws_eqAltS.calls (k : Nat) (A0 : Option Addr) (c0 : Nat) (l0 : List (S95)) (A1 : Option Addr) (c1 : Nat) (l1 : List (S95)) (r : Bool) (w : World) (hr0 : Kd.C k95 w A0 l0.length l0) (hc0 : l0.length ≤ c0) (hr1 : Kd.C k95 w A1 l1.length l1) (hc1 : l1.length ≤ c1) (h : laws_eqAltS.f k l0 l1 = some r) :
  Calls Try.prog 41 #[.slice A0 l0.length c0,.slice A1 l1.length c1] w fun e w' => e = .returned (.bool r) ∧ Below w.heap.size w w':=by
 have hu95:=Try.underlying95
 have HR0:=zm_ hr0
 have HC0:=zm_ hc0
 clear hr0 hc0
 have HR1:=zm_ hr1
 have HC1:=zm_ hc1
 clear hr1 hc1
 have HB:=zm_ (Below.refl w.heap.size w)
 have H : (if (l0.length : Int) = (l1.length : Int) then (laws_eqAltS.l0 k l0 l1 0) else (some false)) = some r:=h
 clear h
 by_cases c3 : (l0.length : Int) = (l1.length : Int)
 ·rw [if_pos c3] at H
  have c3b0 : ((l0.length : Int) == (l1.length : Int)) = true:=beq_iff_eq.mpr c3
  have c3b1 : ((l0.length : Int) != (l1.length : Int)) = false:=bne_eq_false_iff_eq.mpr c3
  have c3b2 : (l0.length == l1.length) = true:=by first|simpa using c3|(simp at c3 ⊢;omega)
  clear c3
  have H':=zm_ H
  clear H
  go_enter Try.func41,Try.ntmps41
  go_wp2
  go_loopg [5] k (fun kq v5 w' => ∃ (x5_1 : Int),v5 = .int .i64 x5_1 ∧ Aside0 (laws_eqAltS.l0 kq l0 l1 x5_1 = some r) ∧ Aside0 (kq ≤ k) ∧ Aside0 (Below w.heap.size w w'))
  case atStart => exact ⟨(0),zV_,H',⟨Nat.le_refl _⟩,⟨by repeat (first|(with_reducible first|exact HB.out|apply za_|apply zn_|apply zd_)|exact HB.out)⟩⟩
  case round =>
   clear H'
   try clear c1
   try clear p2
   try clear c3
   try clear c3b0
   try clear c3b1
   try clear c3b2
   obtain ⟨x5_1,rfl,HA,HK1,HB⟩:=hrel
   cases gk with
   |zero => exact absurd HA.out (by simp [laws_eqAltS.l0])
   |succ k1 =>
    have H:=HA.out
    clear HA
    simp only [laws_eqAltS.l0] at H
    by_cases c4 : x5_1 < (l0.length : Int)
    ·rw [if_pos c4] at H
     have c4b0 : decide (x5_1 < (l0.length : Int)) = true:=decide_eq_true c4
     clear c4
     by_cases c5 : 0 ≤ x5_1
     ·rw [if_pos c5] at H
      have c5b0 : decide (0 ≤ x5_1) = true:=decide_eq_true c5
      clear c5
      by_cases c6 : x5_1 < (l1.length : Int)
      ·rw [if_pos c6] at H
       have c6b0 : decide (x5_1 < (l1.length : Int)) = true:=decide_eq_true c6
       clear c6
       replace H:=Option.bind_eq_some_iff.mp H
       obtain ⟨t339,A70,H⟩:=H
       replace H : (if t339 = true then (laws_eqAltS.l0 k1 l0 l1 (wrap64 (x5_1 + 1))) else (some false)) = some r:=H
       have A7:=zm_ A70
       clear A70
       by_cases c8 : t339 = true
       ·subst c8
        have H1 : (laws_eqAltS.l0 k1 l0 l1 (wrap64 (x5_1 + 1))) = some r:=by rw [if_pos rfl] at H;exact H
        clear H
        have H:=H1
        clear H1
        have H':=zm_ H
        clear H
        try go_wp2
        have n0_:=zm_ (zd_ HB.out)
        clear HB
        have HB:=n0_
        clear n0_
        have p337 : 0 ≤ (x5_1 : Int):=zo_
        have q337 : x5_1 < (l0.length : Int):=zo_
        obtain ⟨ad337,A337_0,c337_0,e337,hx337_0,hl337_0,hi337_0⟩:=at_T95 HR0.out x5_1 p337 q337
        have hw337_0:=hx337_0
        cases e337
        replace hx337_0:=(HB.out.cell (zb_ w _ hx337_0)).trans hx337_0
        have HR337_0:=zm_ hi337_0
        have HC337_0:=zm_ hl337_0
        clear hi337_0 hl337_0
        replace p337:=eq_true p337
        replace q337:=eq_true q337
        have p338 : 0 ≤ (x5_1 : Int):=zo_
        have q338 : x5_1 < (l1.length : Int):=zo_
        obtain ⟨ad338,A338_0,c338_0,e338,hx338_0,hl338_0,hi338_0⟩:=at_T95 HR1.out x5_1 p338 q338
        have hw338_0:=hx338_0
        cases e338
        replace hx338_0:=(HB.out.cell (zb_ w _ hx338_0)).trans hx338_0
        have HR338_0:=zm_ hi338_0
        have HC338_0:=zm_ hl338_0
        clear hi338_0 hl338_0
        replace p338:=eq_true p338
        replace q338:=eq_true q338
        refine start_ (n:=10) (S:=fun w' => w'.cell? (ad337.add (x5_1).toNat) = some (.slice A337_0 ((rd_T95 l0 x5_1).f0).length c337_0) ∧ w'.cell? (ad338.add (x5_1).toNat) = some (.slice A338_0 ((rd_T95 l1 x5_1).f0).length c338_0)) (ds:=[]) #[false,false,false,false,false,false,false,false,false,false] (by kernel_rfl) rfl rfl ⟨((HB.out.cell (zb_ w _ hw337_0)).trans hw337_0),((HB.out.cell (zb_ w _ hw338_0)).trans hw338_0)⟩ (fun hHeld => ?_);refine with_tabW laws_eqAltS.tab6 laws_eqAltS.bits6 (fun HT_ HW_ => ?_)
        generalize wr.drew = w9 at HB HR337_0 HR338_0 hx337_0 hx338_0 hHeld ⊢
        refine pure_ (i:=0) (N:=some 17) (v:=?_) (a':=?_) #[true,false,false,false,false,false,false,false,false,false] rfl rfl (any_of HT_.out (by kernel_rfl)) (fun _ _ _ h => h) (Or.inl ⟨by rfl,?_⟩) ?_ ?_
        rotate_left
        ·intro w'
         go_simp
         with_reducible rfl
        rotate_left
        ·simp only [Act.put,List.setIfInBounds_toArray,List.set_cons_zero,List.set_cons_succ,i64_w,i32_w,IntKind.wrap_u8]
         rfl
        refine pure_ (i:=1) (N:=some 18) (v:=?_) (a':=?_) #[true,true,false,false,false,false,false,false,false,false] rfl rfl (any_of HT_.out (by kernel_rfl)) (fun _ _ _ h => h) (Or.inl ⟨by rfl,?_⟩) ?_ ?_
        rotate_left
        ·intro w'
         go_simp
         with_reducible rfl
        rotate_left
        ·simp only [Act.put,List.setIfInBounds_toArray,List.set_cons_zero,List.set_cons_succ,i64_w,i32_w,IntKind.wrap_u8]
         rfl
        refine pure_ (i:=2) (N:=some 19) (v:=?_) (a':=?_) #[true,true,true,false,false,false,false,false,false,false] rfl rfl (any_of HT_.out (by kernel_rfl)) (fun _ _ _ h => h) (Or.inl ⟨by rfl,?_⟩) ?_ ?_
        rotate_left
        ·intro w'
         go_simp
         with_reducible rfl
        rotate_left
        ·simp only [Act.put,List.setIfInBounds_toArray,List.set_cons_zero,List.set_cons_succ,i64_w,i32_w,IntKind.wrap_u8]
         rfl
        refine pure_ (i:=4) (N:=some 21) (v:=?_) (a':=?_) #[true,true,true,false,true,false,false,false,false,false] rfl rfl (any_of HT_.out (by kernel_rfl)) (fun _ _ _ h => h) (Or.inl ⟨by rfl,?_⟩) ?_ ?_
        rotate_left
        ·intro w'
         go_simp
         with_reducible rfl
        rotate_left
        ·simp only [Act.put,List.setIfInBounds_toArray,List.set_cons_zero,List.set_cons_succ,i64_w,i32_w,IntKind.wrap_u8]
         rfl
        refine pure_ (i:=5) (N:=some 22) (v:=?_) (a':=?_) #[true,true,true,false,true,true,false,false,false,false] rfl rfl (any_of HT_.out (by kernel_rfl)) (fun _ _ _ h => h) (Or.inl ⟨by rfl,?_⟩) ?_ ?_
        rotate_left
        ·intro w'
         go_simp
         with_reducible rfl
        rotate_left
        ·simp only [Act.put,List.setIfInBounds_toArray,List.set_cons_zero,List.set_cons_succ,i64_w,i32_w,IntKind.wrap_u8]
         rfl
        refine pure_ (i:=6) (N:=some 23) (v:=?_) (a':=?_) #[true,true,true,false,true,true,true,false,false,false] rfl rfl (any_of HT_.out (by kernel_rfl)) (fun _ _ _ h => h) (Or.inl ⟨by rfl,?_⟩) ?_ ?_
        rotate_left
        ·intro w'
         go_simp
         with_reducible rfl
        rotate_left
        ·simp only [Act.put,List.setIfInBounds_toArray,List.set_cons_zero,List.set_cons_succ,i64_w,i32_w,IntKind.wrap_u8]
         rfl
        refine take_ (i:=3) (N:=some 20) (v:=?_) (a':=?_) #[true,true,true,true,true,true,true,false,false,false] rfl rfl (take_ofW HT_.out HW_.out (by kernel_rfl)) (fun _ _ _ h => h) (Or.inl ⟨by rfl,?_⟩) hHeld ?_ ?_
        rotate_left
        ·rintro w' ⟨s0,s1⟩
         go_simp
         with_reducible rfl
        rotate_left
        ·simp only [Act.put,List.setIfInBounds_toArray,List.set_cons_zero,List.set_cons_succ,i64_w,i32_w,IntKind.wrap_u8]
         rfl
        refine take_ (i:=7) (N:=some 24) (v:=?_) (a':=?_) #[true,true,true,true,true,true,true,true,false,false] rfl rfl (take_ofW HT_.out HW_.out (by kernel_rfl)) (fun _ _ _ h => h) (Or.inl ⟨by rfl,?_⟩) hHeld ?_ ?_
        rotate_left
        ·rintro w' ⟨s0,s1⟩
         go_simp
         with_reducible rfl
        rotate_left
        ·simp only [Act.put,List.setIfInBounds_toArray,List.set_cons_zero,List.set_cons_succ,i64_w,i32_w,IntKind.wrap_u8]
         rfl
        refine one_ (i:=8) (N:=some 25) #[true,true,true,true,true,true,true,true,true,false] rfl rfl (one_of HT_.out (by kernel_rfl)) (by decide) (fun K hK => ?_)
        refine goes_ Try.func47 (by kernel_rfl) rfl #[.agg #[.slice A337_0 ((rd_T95 l0 x5_1).f0).length c337_0],.agg #[.slice A338_0 ((rd_T95 l1 x5_1).f0).length c338_0]] (by rfl) rfl rfl zq_ ?_
        with_reducible refine (laws_eqAlt.calls k1 _ _ ((rd_T95 l0 x5_1).f0) _ _ ((rd_T95 l1 x5_1).f0) true _ ?side1 ?side2 ?side3 ?side4 A7.out).mono ?_
        (case side1 => repeat (first|exact (Kd.C_below HR337_0.out HB.out)|(with_reducible refine Kd.C_alloc ?_ _)|(with_reducible refine Kd.C_drewN ?_ _)|(with_reducible refine Kd.C_drew ?_)))
        (case side2 => exact HC337_0.out)
        (case side3 => repeat (first|exact (Kd.C_below HR338_0.out HB.out)|(with_reducible refine Kd.C_alloc ?_ _)|(with_reducible refine Kd.C_drewN ?_ _)|(with_reducible refine Kd.C_drew ?_)))
        (case side4 => exact HC338_0.out)
        rintro e w10 ⟨rfl,hb⟩
        refine ⟨_,rfl,?_⟩
        have n0_:=zm_ (below_step zB_ hb)
        clear HB
        have HB:=n0_
        clear n0_
        (try clear hb)
        (try clear hb2)
        (try clear hk)
        (try clear hi)
        refine hK.out _ _ ⟨((HB.out.cell (zb_ w _ hw337_0)).trans hw337_0),((HB.out.cell (zb_ w _ hw338_0)).trans hw338_0)⟩ (fun hHeld => ?_)
        clear hK K
        refine norm_ (a':=?_) ?_ ?_
        rotate_left
        ·show Act.put _ (some 25) _ = _
         simp only [Act.put,List.setIfInBounds_toArray,List.set_cons_zero,List.set_cons_succ,i64_w,i32_w,IntKind.wrap_u8]
         rfl
        refine pure_ (i:=9) (N:=some 26) (v:=?_) (a':=?_) #[true,true,true,true,true,true,true,true,true,true] rfl rfl (any_of HT_.out (by kernel_rfl)) (fun _ _ _ h => h) (Or.inl ⟨by rfl,?_⟩) ?_ ?_
        rotate_left
        ·intro w'
         go_simp
         with_reducible rfl
        rotate_left
        ·simp only [Act.put,List.setIfInBounds_toArray,List.set_cons_zero,List.set_cons_succ,i64_w,i32_w,IntKind.wrap_u8]
         rfl
        refine done_ (done_of HT_.out (by kernel_rfl)) ?_
        try go_wp2
        go_roundg k1
        case measure => have:=HK1.out;omega
        case rel => exact ⟨(wrap64 (x5_1 + 1)),zV_,H',⟨by have:=HK1.out;omega⟩,⟨by repeat (first|(with_reducible first|exact HB.out|apply za_|apply zn_|apply zd_)|exact HB.out)⟩⟩
       ·replace c8:=Bool.eq_false_iff.mpr c8
        subst c8
        have H1 : (some false) = some r:=by rw [if_neg (show ¬ (false = true) by decide)] at H;exact H
        clear H
        have H:=H1
        clear H1
        obtain rfl:=Option.some.inj H
        try go_wp2
        have n0_:=zm_ (zd_ HB.out)
        clear HB
        have HB:=n0_
        clear n0_
        have p337 : 0 ≤ (x5_1 : Int):=zo_
        have q337 : x5_1 < (l0.length : Int):=zo_
        obtain ⟨ad337,A337_0,c337_0,e337,hx337_0,hl337_0,hi337_0⟩:=at_T95 HR0.out x5_1 p337 q337
        have hw337_0:=hx337_0
        cases e337
        replace hx337_0:=(HB.out.cell (zb_ w _ hx337_0)).trans hx337_0
        have HR337_0:=zm_ hi337_0
        have HC337_0:=zm_ hl337_0
        clear hi337_0 hl337_0
        replace p337:=eq_true p337
        replace q337:=eq_true q337
        have p338 : 0 ≤ (x5_1 : Int):=zo_
        have q338 : x5_1 < (l1.length : Int):=zo_
        obtain ⟨ad338,A338_0,c338_0,e338,hx338_0,hl338_0,hi338_0⟩:=at_T95 HR1.out x5_1 p338 q338
        have hw338_0:=hx338_0
        cases e338
        replace hx338_0:=(HB.out.cell (zb_ w _ hx338_0)).trans hx338_0
        have HR338_0:=zm_ hi338_0
        have HC338_0:=zm_ hl338_0
        clear hi338_0 hl338_0
        replace p338:=eq_true p338
        replace q338:=eq_true q338
        refine start_ (n:=10) (S:=fun w' => w'.cell? (ad337.add (x5_1).toNat) = some (.slice A337_0 ((rd_T95 l0 x5_1).f0).length c337_0) ∧ w'.cell? (ad338.add (x5_1).toNat) = some (.slice A338_0 ((rd_T95 l1 x5_1).f0).length c338_0)) (ds:=[]) #[false,false,false,false,false,false,false,false,false,false] (by kernel_rfl) rfl rfl ⟨((HB.out.cell (zb_ w _ hw337_0)).trans hw337_0),((HB.out.cell (zb_ w _ hw338_0)).trans hw338_0)⟩ (fun hHeld => ?_);refine with_tabW laws_eqAltS.tab6 laws_eqAltS.bits6 (fun HT_ HW_ => ?_)
        generalize wr.drew = w11 at HB HR337_0 HR338_0 hx337_0 hx338_0 hHeld ⊢
        refine pure_ (i:=0) (N:=some 17) (v:=?_) (a':=?_) #[true,false,false,false,false,false,false,false,false,false] rfl rfl (any_of HT_.out (by kernel_rfl)) (fun _ _ _ h => h) (Or.inl ⟨by rfl,?_⟩) ?_ ?_
        rotate_left
        ·intro w'
         go_simp
         with_reducible rfl
        rotate_left
        ·simp only [Act.put,List.setIfInBounds_toArray,List.set_cons_zero,List.set_cons_succ,i64_w,i32_w,IntKind.wrap_u8]
         rfl
        refine pure_ (i:=1) (N:=some 18) (v:=?_) (a':=?_) #[true,true,false,false,false,false,false,false,false,false] rfl rfl (any_of HT_.out (by kernel_rfl)) (fun _ _ _ h => h) (Or.inl ⟨by rfl,?_⟩) ?_ ?_
        rotate_left
        ·intro w'
         go_simp
         with_reducible rfl
        rotate_left
        ·simp only [Act.put,List.setIfInBounds_toArray,List.set_cons_zero,List.set_cons_succ,i64_w,i32_w,IntKind.wrap_u8]
         rfl
        refine pure_ (i:=2) (N:=some 19) (v:=?_) (a':=?_) #[true,true,true,false,false,false,false,false,false,false] rfl rfl (any_of HT_.out (by kernel_rfl)) (fun _ _ _ h => h) (Or.inl ⟨by rfl,?_⟩) ?_ ?_
        rotate_left
        ·intro w'
         go_simp
         with_reducible rfl
        rotate_left
        ·simp only [Act.put,List.setIfInBounds_toArray,List.set_cons_zero,List.set_cons_succ,i64_w,i32_w,IntKind.wrap_u8]
         rfl
        refine pure_ (i:=4) (N:=some 21) (v:=?_) (a':=?_) #[true,true,true,false,true,false,false,false,false,false] rfl rfl (any_of HT_.out (by kernel_rfl)) (fun _ _ _ h => h) (Or.inl ⟨by rfl,?_⟩) ?_ ?_
        rotate_left
        ·intro w'
         go_simp
         with_reducible rfl
        rotate_left
        ·simp only [Act.put,List.setIfInBounds_toArray,List.set_cons_zero,List.set_cons_succ,i64_w,i32_w,IntKind.wrap_u8]
         rfl
        refine pure_ (i:=5) (N:=some 22) (v:=?_) (a':=?_) #[true,true,true,false,true,true,false,false,false,false] rfl rfl (any_of HT_.out (by kernel_rfl)) (fun _ _ _ h => h) (Or.inl ⟨by rfl,?_⟩) ?_ ?_
        rotate_left
        ·intro w'
         go_simp
         with_reducible rfl
        rotate_left
        ·simp only [Act.put,List.setIfInBounds_toArray,List.set_cons_zero,List.set_cons_succ,i64_w,i32_w,IntKind.wrap_u8]
         rfl
        refine pure_ (i:=6) (N:=some 23) (v:=?_) (a':=?_) #[true,true,true,false,true,true,true,false,false,false] rfl rfl (any_of HT_.out (by kernel_rfl)) (fun _ _ _ h => h) (Or.inl ⟨by rfl,?_⟩) ?_ ?_
        rotate_left
        ·intro w'
         go_simp
         with_reducible rfl
        rotate_left
        ·simp only [Act.put,List.setIfInBounds_toArray,List.set_cons_zero,List.set_cons_succ,i64_w,i32_w,IntKind.wrap_u8]
         rfl
        refine take_ (i:=3) (N:=some 20) (v:=?_) (a':=?_) #[true,true,true,true,true,true,true,false,false,false] rfl rfl (take_ofW HT_.out HW_.out (by kernel_rfl)) (fun _ _ _ h => h) (Or.inl ⟨by rfl,?_⟩) hHeld ?_ ?_
        rotate_left
        ·rintro w' ⟨s0,s1⟩
         go_simp
         with_reducible rfl
        rotate_left
        ·simp only [Act.put,List.setIfInBounds_toArray,List.set_cons_zero,List.set_cons_succ,i64_w,i32_w,IntKind.wrap_u8]
         rfl
        refine take_ (i:=7) (N:=some 24) (v:=?_) (a':=?_) #[true,true,true,true,true,true,true,true,false,false] rfl rfl (take_ofW HT_.out HW_.out (by kernel_rfl)) (fun _ _ _ h => h) (Or.inl ⟨by rfl,?_⟩) hHeld ?_ ?_
        rotate_left
        ·rintro w' ⟨s0,s1⟩
         go_simp
         with_reducible rfl
        rotate_left
        ·simp only [Act.put,List.setIfInBounds_toArray,List.set_cons_zero,List.set_cons_succ,i64_w,i32_w,IntKind.wrap_u8]
         rfl
        refine one_ (i:=8) (N:=some 25) #[true,true,true,true,true,true,true,true,true,false] rfl rfl (one_of HT_.out (by kernel_rfl)) (by decide) (fun K hK => ?_)
        refine goes_ Try.func47 (by kernel_rfl) rfl #[.agg #[.slice A337_0 ((rd_T95 l0 x5_1).f0).length c337_0],.agg #[.slice A338_0 ((rd_T95 l1 x5_1).f0).length c338_0]] (by rfl) rfl rfl zq_ ?_
        with_reducible refine (laws_eqAlt.calls k1 _ _ ((rd_T95 l0 x5_1).f0) _ _ ((rd_T95 l1 x5_1).f0) false _ ?side1 ?side2 ?side3 ?side4 A7.out).mono ?_
        (case side1 => repeat (first|exact (Kd.C_below HR337_0.out HB.out)|(with_reducible refine Kd.C_alloc ?_ _)|(with_reducible refine Kd.C_drewN ?_ _)|(with_reducible refine Kd.C_drew ?_)))
        (case side2 => exact HC337_0.out)
        (case side3 => repeat (first|exact (Kd.C_below HR338_0.out HB.out)|(with_reducible refine Kd.C_alloc ?_ _)|(with_reducible refine Kd.C_drewN ?_ _)|(with_reducible refine Kd.C_drew ?_)))
        (case side4 => exact HC338_0.out)
        rintro e w12 ⟨rfl,hb⟩
        refine ⟨_,rfl,?_⟩
        have n0_:=zm_ (below_step zB_ hb)
        clear HB
        have HB:=n0_
        clear n0_
        (try clear hb)
        (try clear hb2)
        (try clear hk)
        (try clear hi)
        refine hK.out _ _ ⟨((HB.out.cell (zb_ w _ hw337_0)).trans hw337_0),((HB.out.cell (zb_ w _ hw338_0)).trans hw338_0)⟩ (fun hHeld => ?_)
        clear hK K
        refine norm_ (a':=?_) ?_ ?_
        rotate_left
        ·show Act.put _ (some 25) _ = _
         simp only [Act.put,List.setIfInBounds_toArray,List.set_cons_zero,List.set_cons_succ,i64_w,i32_w,IntKind.wrap_u8]
         rfl
        refine pure_ (i:=9) (N:=some 26) (v:=?_) (a':=?_) #[true,true,true,true,true,true,true,true,true,true] rfl rfl (any_of HT_.out (by kernel_rfl)) (fun _ _ _ h => h) (Or.inl ⟨by rfl,?_⟩) ?_ ?_
        rotate_left
        ·intro w'
         go_simp
         with_reducible rfl
        rotate_left
        ·simp only [Act.put,List.setIfInBounds_toArray,List.set_cons_zero,List.set_cons_succ,i64_w,i32_w,IntKind.wrap_u8]
         rfl
        refine done_ (done_of HT_.out (by kernel_rfl)) ?_
        try go_wp2
        go_ret
        exact ⟨zE_,by repeat (first|(with_reducible first|exact HB.out|apply za_|apply zn_|apply zd_)|exact HB.out)⟩
      ·rw [if_neg c6] at H
       exact absurd H (by simp)
     ·rw [if_neg c5] at H
      exact absurd H (by simp)
    ·rw [if_neg c4] at H
     have c4b0 : decide (x5_1 < (l0.length : Int)) = false:=decide_eq_false c4
     clear c4
     obtain rfl:=Option.some.inj H
     go_wp2
     go_ret
     exact ⟨zE_,by repeat (first|(with_reducible first|exact HB.out|apply za_|apply zn_|apply zd_)|exact HB.out)⟩
 ·rw [if_neg c3] at H
  have c3b0 : ((l0.length : Int) == (l1.length : Int)) = false:=beq_eq_false_iff_ne.mpr c3
  have c3b1 : ((l0.length : Int) != (l1.length : Int)) = true:=bne_iff_ne.mpr c3
  have c3b2 : (l0.length == l1.length) = false:=by first|simpa using c3|(simp at c3 ⊢;omega)
  obtain rfl:=Option.some.inj H
  go_enter Try.func41,Try.ntmps41
  go_wp2
  go_ret
  exact ⟨zE_,by repeat (first|(with_reducible first|exact HB.out|apply za_|apply zn_|apply zd_)|exact HB.out)⟩

end Go.Proofs.Ytkbgmojomgelbaa.MFnExactTreeText
