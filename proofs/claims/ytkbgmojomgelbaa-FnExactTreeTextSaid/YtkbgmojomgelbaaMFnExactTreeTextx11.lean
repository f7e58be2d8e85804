import Derived.Test.YtkbgmojomgelbaaMFnExactTreeTextx0
import Derived.Test.YtkbgmojomgelbaaMFnExactTreeTextx10
namespace Go.Proofs.Ytkbgmojomgelbaa.MFnExactTreeText
open Go.RowKit Go.Proofs.YtkbgmojomgelbaaW.PrintWords Go.Proofs.YtkbgmojomgelbaaW.PrintLast Go.Proofs.YtkbgmojomgelbaaW.PrintMore
attribute [local go_sem] max2_int min2_int max_two min_two max_three min_three max_four min_four
set_option linter.unusedVariables false
set_option linter.unusedSimpArgs false

def laws_eqTreeNodeS.l0 : Nat → List (S47) → List (S47) → Int → Option (Bool)
 |0,_,_,_ => none
 |k + 1,x0,x1,x5 => if x5 < (x0.length : Int) then (if 0 ≤ x5 then (if x5 < (x1.length : Int) then ((laws_eqTreeNode.f k ((rd_T47 x0 x5).f0) ((rd_T47 x0 x5).f1) ((rd_T47 x0 x5).f2) ((rd_T47 x0 x5).f3) ((rd_T47 x0 x5).f4) ((rd_T47 x0 x5).f5) ((rd_T47 x1 x5).f0) ((rd_T47 x1 x5).f1) ((rd_T47 x1 x5).f2) ((rd_T47 x1 x5).f3) ((rd_T47 x1 x5).f4) ((rd_T47 x1 x5).f5)).bind fun t356 => (if t356 = true then (laws_eqTreeNodeS.l0 k x0 x1 (wrap64 (x5 + 1))) else (some false))) else (none)) else (none)) else (some true)
def laws_eqTreeNodeS.f (k : Nat) (l0 : List (S47)) (l1 : List (S47)) : Option (Bool):=if (l0.length : Int) = (l1.length : Int) then (laws_eqTreeNodeS.l0 k l0 l1 0) else (some false)
theorem laws_eqTreeNodeS.mono_l : ∀ k,(∀ y0 y1 y2,LeO (laws_eqTreeNodeS.l0 k y0 y1 y2) (laws_eqTreeNodeS.l0 (k + 1) y0 y1 y2))
 |0 => fun _ _ _ r h => by simp [laws_eqTreeNodeS.l0] at h
 |k + 1 => by
  have ih0:=laws_eqTreeNodeS.mono_l k
  ·intro y0 y1 y2
   unfold laws_eqTreeNodeS.l0
   repeat' first
   |(with_reducible exact ih0 _ _ _)
   |(with_reducible exact laws_eqTreeNode.mono _ _ _ _ _ _ _ _ _ _ _ _ _)
   |(with_reducible exact LeO.refl _)
   |(with_reducible exact LeO.none _)
   |(with_reducible refine LeO.ite ?_ ?_)
   |(with_reducible refine LeO.bind ?_ (fun _ => ?_))
theorem laws_eqTreeNodeS.mono : ∀ a0 a1 k,LeO (laws_eqTreeNodeS.f k a0 a1) (laws_eqTreeNodeS.f (k + 1) a0 a1):=by
 intro a0 a1 k
 have ih0:=laws_eqTreeNodeS.mono_l k
 unfold laws_eqTreeNodeS.f
 repeat' first
   |(with_reducible exact ih0 _ _ _)
   |(with_reducible exact laws_eqTreeNode.mono _ _ _ _ _ _ _ _ _ _ _ _ _)
   |(with_reducible exact LeO.refl _)
   |(with_reducible exact LeO.none _)
   |(with_reducible refine LeO.ite ?_ ?_)
   |(with_reducible refine LeO.bind ?_ (fun _ => ?_))
def laws_eqTreeNodeS.T6 : Bool × List (List Nat × List Nat):=(true,[([],[]),([],[]),([0,1],[0,1]),([2],[2]),([],[]),([],[]),([4,5],[4,5]),([6],[6]),([3,7],[3,7]),([8],[8])])
def laws_eqTreeNodeS.B6 : List Nat:=[0,0,3,7,0,0,48,112,255,511]
theorem laws_eqTreeNodeS.tab6 : rtab .any (opsOf Try.f21 6) = laws_eqTreeNodeS.T6:=by kernel_rfl
theorem laws_eqTreeNodeS.bits6 : waitsOk laws_eqTreeNodeS.T6.2 laws_eqTreeNodeS.B6 = true:=by kernel_rfl
set_option maxHeartbeats 8000000 in
set_option maxRecDepth 100000 in
theorem laws_eqTreeNodeS.calls (k : Nat) (A0 : Option Addr) (c0 : Nat) (l0 : List (S47)) (A1 : Option Addr) (c1 : Nat) (l1 : List (S47)) (r : Bool) (w : World) (hr0 : Kd.C k47 w A0 l0.length l0) (hc0 : l0.length ≤ c0) (hr1 : Kd.C k47 w A1 l1.length l1) (hc1 : l1.length ≤ c1) (h : laws_eqTreeNodeS.f k l0 l1 = some r) :
  Calls Try.prog 21 #[.slice A0 l0.length c0,.slice A1 l1.length c1] w fun e w' => e = .returned (.bool r) ∧ Below w.heap.size w w':=by
 have hu47:=Try.underlying47
 have HR0:=zm_ hr0
 have HC0:=zm_ hc0
 clear hr0 hc0
 have HR1:=zm_ hr1
 have HC1:=zm_ hc1
 clear hr1 hc1
 have HB:=zm_ (Below.refl w.heap.size w)
 have H : (if (l0.length : Int) = (l1.length : Int) then (laws_eqTreeNodeS.l0 k l0 l1 0) else (some false)) = some r:=h
 clear h
 by_cases c3 : (l0.length : Int) = (l1.length : Int)
 ·rw [if_pos c3] at H
  have c3b0 : ((l0.length : Int) == (l1.length : Int)) = true:=beq_iff_eq.mpr c3
  have c3b1 : ((l0.length : Int) != (l1.length : Int)) = false:=bne_eq_false_iff_eq.mpr c3
  have c3b2 : (l0.length == l1.length) = true:=by first|simpa using c3|(simp at c3 ⊢;omega)
  clear c3
  have H':=zm_ H
  clear H
  go_enter Try.func21,Try.ntmps21
  go_wp2
  go_loopg [5] k (fun kq v5 w' => ∃ (x5_1 : Int),v5 = .int .i64 x5_1 ∧ Aside0 (laws_eqTreeNodeS.l0 kq l0 l1 x5_1 = some r) ∧ Aside0 (kq ≤ k) ∧ Aside0 (Below w.heap.size w w'))
  case atStart => exact ⟨(0),zV_,H',⟨Nat.le_refl _⟩,⟨by repeat (first|(with_reducible first|exact HB.out|apply za_|apply zn_|apply zd_)|exact HB.out)⟩⟩
  case round =>
   clear H'
   try clear c1
   try clear c2
   try clear p2
   try clear c3
   try clear c3b0
   try clear c3b1
   try clear c3b2
   obtain ⟨x5_1,rfl,HA,HK1,HB⟩:=hrel
   cases gk with
   |zero => exact absurd HA.out (by simp [laws_eqTreeNodeS.l0])
   |succ k1 =>
    have H:=HA.out
    clear HA
    simp only [laws_eqTreeNodeS.l0] at H
    by_cases c4 : x5_1 < (l0.length : Int)
    ·rw [if_pos c4] at H
     have c4b0 : decide (x5_1 < (l0.length : Int)) = true:=decide_eq_true c4
     clear c4
     by_cases c5 : 0 ≤ x5_1
     ·rw [if_pos c5] at H
      have c5b0 : decide (0 ≤ x5_1) = true:=decide_eq_true c5
      clear c5
      by_cases c6 : x5_1 < (l1.length : Int)
      ·rw [if_pos c6] at H
       have c6b0 : decide (x5_1 < (l1.length : Int)) = true:=decide_eq_true c6
       clear c6
       replace H:=Option.bind_eq_some_iff.mp H
       obtain ⟨t356,A70,H⟩:=H
       replace H : (if t356 = true then (laws_eqTreeNodeS.l0 k1 l0 l1 (wrap64 (x5_1 + 1))) else (some false)) = some r:=H
       have A7:=zm_ A70
       clear A70
       by_cases c8 : t356 = true
       ·subst c8
        have H1 : (laws_eqTreeNodeS.l0 k1 l0 l1 (wrap64 (x5_1 + 1))) = some r:=by rw [if_pos rfl] at H;exact H
        clear H
        have H:=H1
        clear H1
        have H':=zm_ H
        clear H
        try go_wp2
        have n0_:=zm_ (zd_ HB.out)
        clear HB
        have HB:=n0_
        clear n0_
        have p354 : 0 ≤ (x5_1 : Int):=zo_
        have q354 : x5_1 < (l0.length : Int):=zo_
        obtain ⟨ad354,A354_2,c354_2,A354_5,c354_5,e354,hx354_0,hx354_1,hx354_2,hx354_3,hx354_4,hx354_5,hl354_2,hi354_2,hl354_5,hi354_5⟩:=at_T47 HR0.out x5_1 p354 q354
        have hw354_5:=hx354_5
        have hw354_4:=hx354_4
        have hw354_3:=hx354_3
        have hw354_2:=hx354_2
        have hw354_1:=hx354_1
        have hw354_0:=hx354_0
        cases e354
        replace hx354_0:=(HB.out.cell (zb_ w _ hx354_0)).trans hx354_0
        replace hx354_1:=(HB.out.cell (zb_ w _ hx354_1)).trans hx354_1
        replace hx354_2:=(HB.out.cell (zb_ w _ hx354_2)).trans hx354_2
        replace hx354_3:=(HB.out.cell (zb_ w _ hx354_3)).trans hx354_3
        replace hx354_4:=(HB.out.cell (zb_ w _ hx354_4)).trans hx354_4
        replace hx354_5:=(HB.out.cell (zb_ w _ hx354_5)).trans hx354_5
        have HR354_2:=zm_ hi354_2
        have HC354_2:=zm_ hl354_2
        clear hi354_2 hl354_2
        have HR354_5:=zm_ hi354_5
        have HC354_5:=zm_ hl354_5
        clear hi354_5 hl354_5
        replace p354:=eq_true p354
        replace q354:=eq_true q354
        have p355 : 0 ≤ (x5_1 : Int):=zo_
        have q355 : x5_1 < (l1.length : Int):=zo_
        obtain ⟨ad355,A355_2,c355_2,A355_5,c355_5,e355,hx355_0,hx355_1,hx355_2,hx355_3,hx355_4,hx355_5,hl355_2,hi355_2,hl355_5,hi355_5⟩:=at_T47 HR1.out x5_1 p355 q355
        have hw355_5:=hx355_5
        have hw355_4:=hx355_4
        have hw355_3:=hx355_3
        have hw355_2:=hx355_2
        have hw355_1:=hx355_1
        have hw355_0:=hx355_0
        cases e355
        replace hx355_0:=(HB.out.cell (zb_ w _ hx355_0)).trans hx355_0
        replace hx355_1:=(HB.out.cell (zb_ w _ hx355_1)).trans hx355_1
        replace hx355_2:=(HB.out.cell (zb_ w _ hx355_2)).trans hx355_2
        replace hx355_3:=(HB.out.cell (zb_ w _ hx355_3)).trans hx355_3
        replace hx355_4:=(HB.out.cell (zb_ w _ hx355_4)).trans hx355_4
        replace hx355_5:=(HB.out.cell (zb_ w _ hx355_5)).trans hx355_5
        have HR355_2:=zm_ hi355_2
        have HC355_2:=zm_ hl355_2
        clear hi355_2 hl355_2
        have HR355_5:=zm_ hi355_5
        have HC355_5:=zm_ hl355_5
        clear hi355_5 hl355_5
        replace p355:=eq_true p355
        replace q355:=eq_true q355
        refine start_ (n:=10) (S:=fun w' => w'.cell? (ad354.add ((x5_1).toNat * 6)) = some (.int .i64 ((rd_T47 l0 x5_1).f0)) ∧ w'.cell? ⟨(ad354.add ((x5_1).toNat * 6)).block,(ad354.add ((x5_1).toNat * 6)).off + 1,none⟩ = some (.int .i64 ((rd_T47 l0 x5_1).f1)) ∧ w'.cell? ⟨(ad354.add ((x5_1).toNat * 6)).block,(ad354.add ((x5_1).toNat * 6)).off + 2,none⟩ = some (.slice A354_2 ((rd_T47 l0 x5_1).f2).length c354_2) ∧ w'.cell? ⟨(ad354.add ((x5_1).toNat * 6)).block,(ad354.add ((x5_1).toNat * 6)).off + 3,none⟩ = some (.int .i64 ((rd_T47 l0 x5_1).f3)) ∧ w'.cell? ⟨(ad354.add ((x5_1).toNat * 6)).block,(ad354.add ((x5_1).toNat * 6)).off + 4,none⟩ = some (.int .i64 ((rd_T47 l0 x5_1).f4)) ∧ w'.cell? ⟨(ad354.add ((x5_1).toNat * 6)).block,(ad354.add ((x5_1).toNat * 6)).off + 5,none⟩ = some (.slice A354_5 ((rd_T47 l0 x5_1).f5).length c354_5) ∧ w'.cell? (ad355.add ((x5_1).toNat * 6)) = some (.int .i64 ((rd_T47 l1 x5_1).f0)) ∧ w'.cell? ⟨(ad355.add ((x5_1).toNat * 6)).block,(ad355.add ((x5_1).toNat * 6)).off + 1,none⟩ = some (.int .i64 ((rd_T47 l1 x5_1).f1)) ∧ w'.cell? ⟨(ad355.add ((x5_1).toNat * 6)).block,(ad355.add ((x5_1).toNat * 6)).off + 2,none⟩ = some (.slice A355_2 ((rd_T47 l1 x5_1).f2).length c355_2) ∧ w'.cell? ⟨(ad355.add ((x5_1).toNat * 6)).block,(ad355.add ((x5_1).toNat * 6)).off + 3,none⟩ = some (.int .i64 ((rd_T47 l1 x5_1).f3)) ∧ w'.cell? ⟨(ad355.add ((x5_1).toNat * 6)).block,(ad355.add ((x5_1).toNat * 6)).off + 4,none⟩ = some (.int .i64 ((rd_T47 l1 x5_1).f4)) ∧ w'.cell? ⟨(ad355.add ((x5_1).toNat * 6)).block,(ad355.add ((x5_1).toNat * 6)).off + 5,none⟩ = some (.slice A355_5 ((rd_T47 l1 x5_1).f5).length c355_5)) (ds:=[]) #[false,false,false,false,false,false,false,false,false,false] (by kernel_rfl) rfl rfl ⟨((HB.out.cell (zb_ w _ hw354_0)).trans hw354_0),((HB.out.cell (zb_ w _ hw354_1)).trans hw354_1),((HB.out.cell (zb_ w _ hw354_2)).trans hw354_2),((HB.out.cell (zb_ w _ hw354_3)).trans hw354_3),((HB.out.cell (zb_ w _ hw354_4)).trans hw354_4),((HB.out.cell (zb_ w _ hw354_5)).trans hw354_5),((HB.out.cell (zb_ w _ hw355_0)).trans hw355_0),((HB.out.cell (zb_ w _ hw355_1)).trans hw355_1),((HB.out.cell (zb_ w _ hw355_2)).trans hw355_2),((HB.out.cell (zb_ w _ hw355_3)).trans hw355_3),((HB.out.cell (zb_ w _ hw355_4)).trans hw355_4),((HB.out.cell (zb_ w _ hw355_5)).trans hw355_5)⟩ (fun hHeld => ?_);refine with_tabW laws_eqTreeNodeS.tab6 laws_eqTreeNodeS.bits6 (fun HT_ HW_ => ?_)
        generalize wr.drew = w9 at HB HR354_2 HR354_5 HR355_2 HR355_5 hx354_0 hx354_1 hx354_2 hx354_3 hx354_4 hx354_5 hx355_0 hx355_1 hx355_2 hx355_3 hx355_4 hx355_5 hHeld ⊢
        refine pure_ (i:=0) (N:=some 17) (v:=?_) (a':=?_) #[true,false,false,false,false,false,false,false,false,false] rfl rfl (any_of HT_.out (by kernel_rfl)) (fun _ _ _ h => h) (Or.inl ⟨by rfl,?_⟩) ?_ ?_
        rotate_left
        ·intro w'
         go_simp
         with_reducible rfl
        rotate_left
        ·simp only [Act.put,List.setIfInBounds_toArray,List.set_cons_zero,List.set_cons_succ,i64_w,i32_w,IntKind.wrap_u8]
         rfl
        refine pure_ (i:=1) (N:=some 18) (v:=?_) (a':=?_) #[true,true,false,false,false,false,false,false,false,false] rfl rfl (any_of HT_.out (by kernel_rfl)) (fun _ _ _ h => h) (Or.inl ⟨by rfl,?_⟩) ?_ ?_
        rotate_left
        ·intro w'
         go_simp
         with_reducible rfl
        rotate_left
        ·simp only [Act.put,List.setIfInBounds_toArray,List.set_cons_zero,List.set_cons_succ,i64_w,i32_w,IntKind.wrap_u8]
         rfl
        refine pure_ (i:=2) (N:=some 19) (v:=?_) (a':=?_) #[true,true,true,false,false,false,false,false,false,false] rfl rfl (any_of HT_.out (by kernel_rfl)) (fun _ _ _ h => h) (Or.inl ⟨by rfl,?_⟩) ?_ ?_
        rotate_left
        ·intro w'
         go_simp
         with_reducible rfl
        rotate_left
        ·simp only [Act.put,List.setIfInBounds_toArray,List.set_cons_zero,List.set_cons_succ,i64_w,i32_w,IntKind.wrap_u8]
         rfl
        refine pure_ (i:=4) (N:=some 21) (v:=?_) (a':=?_) #[true,true,true,false,true,false,false,false,false,false] rfl rfl (any_of HT_.out (by kernel_rfl)) (fun _ _ _ h => h) (Or.inl ⟨by rfl,?_⟩) ?_ ?_
        rotate_left
        ·intro w'
         go_simp
         with_reducible rfl
        rotate_left
        ·simp only [Act.put,List.setIfInBounds_toArray,List.set_cons_zero,List.set_cons_succ,i64_w,i32_w,IntKind.wrap_u8]
         rfl
        refine pure_ (i:=5) (N:=some 22) (v:=?_) (a':=?_) #[true,true,true,false,true,true,false,false,false,false] rfl rfl (any_of HT_.out (by kernel_rfl)) (fun _ _ _ h => h) (Or.inl ⟨by rfl,?_⟩) ?_ ?_
        rotate_left
        ·intro w'
         go_simp
         with_reducible rfl
        rotate_left
        ·simp only [Act.put,List.setIfInBounds_toArray,List.set_cons_zero,List.set_cons_succ,i64_w,i32_w,IntKind.wrap_u8]
         rfl
        refine pure_ (i:=6) (N:=some 23) (v:=?_) (a':=?_) #[true,true,true,false,true,true,true,false,false,false] rfl rfl (any_of HT_.out (by kernel_rfl)) (fun _ _ _ h => h) (Or.inl ⟨by rfl,?_⟩) ?_ ?_
        rotate_left
        ·intro w'
         go_simp
         with_reducible rfl
        rotate_left
        ·simp only [Act.put,List.setIfInBounds_toArray,List.set_cons_zero,List.set_cons_succ,i64_w,i32_w,IntKind.wrap_u8]
         rfl
        refine take_ (i:=3) (N:=some 20) (v:=?_) (a':=?_) #[true,true,true,true,true,true,true,false,false,false] rfl rfl (take_ofW HT_.out HW_.out (by kernel_rfl)) (fun _ _ _ h => h) (Or.inl ⟨by rfl,?_⟩) hHeld ?_ ?_
        rotate_left
        ·rintro w' ⟨s0,s1,s2,s3,s4,s5,s6,s7,s8,s9,s10,s11⟩
         go_simp
         with_reducible rfl
        rotate_left
        ·simp only [Act.put,List.setIfInBounds_toArray,List.set_cons_zero,List.set_cons_succ,i64_w,i32_w,IntKind.wrap_u8]
         rfl
        refine take_ (i:=7) (N:=some 24) (v:=?_) (a':=?_) #[true,true,true,true,true,true,true,true,false,false] rfl rfl (take_ofW HT_.out HW_.out (by kernel_rfl)) (fun _ _ _ h => h) (Or.inl ⟨by rfl,?_⟩) hHeld ?_ ?_
        rotate_left
        ·rintro w' ⟨s0,s1,s2,s3,s4,s5,s6,s7,s8,s9,s10,s11⟩
         go_simp
         with_reducible rfl
        rotate_left
        ·simp only [Act.put,List.setIfInBounds_toArray,List.set_cons_zero,List.set_cons_succ,i64_w,i32_w,IntKind.wrap_u8]
         rfl
        refine one_ (i:=8) (N:=some 25) #[true,true,true,true,true,true,true,true,true,false] rfl rfl (one_of HT_.out (by kernel_rfl)) (by decide) (fun K hK => ?_)
        refine goes_ Try.func31 (by kernel_rfl) rfl #[.agg #[.int .i64 ((rd_T47 l0 x5_1).f0),.int .i64 ((rd_T47 l0 x5_1).f1),.slice A354_2 ((rd_T47 l0 x5_1).f2).length c354_2,.int .i64 ((rd_T47 l0 x5_1).f3),.int .i64 ((rd_T47 l0 x5_1).f4),.slice A354_5 ((rd_T47 l0 x5_1).f5).length c354_5],.agg #[.int .i64 ((rd_T47 l1 x5_1).f0),.int .i64 ((rd_T47 l1 x5_1).f1),.slice A355_2 ((rd_T47 l1 x5_1).f2).length c355_2,.int .i64 ((rd_T47 l1 x5_1).f3),.int .i64 ((rd_T47 l1 x5_1).f4),.slice A355_5 ((rd_T47 l1 x5_1).f5).length c355_5]] (by rfl) rfl rfl zq_ ?_
        with_reducible refine (laws_eqTreeNode.calls k1 ((rd_T47 l0 x5_1).f0) ((rd_T47 l0 x5_1).f1) _ _ ((rd_T47 l0 x5_1).f2) ((rd_T47 l0 x5_1).f3) ((rd_T47 l0 x5_1).f4) _ _ ((rd_T47 l0 x5_1).f5) ((rd_T47 l1 x5_1).f0) ((rd_T47 l1 x5_1).f1) _ _ ((rd_T47 l1 x5_1).f2) ((rd_T47 l1 x5_1).f3) ((rd_T47 l1 x5_1).f4) _ _ ((rd_T47 l1 x5_1).f5) true _ ?side1 ?side2 ?side3 ?side4 ?side5 ?side6 ?side7 ?side8 A7.out).mono ?_
        (case side1 => repeat (first|exact (Kd.C_below HR354_2.out HB.out)|(with_reducible refine Kd.C_alloc ?_ _)|(with_reducible refine Kd.C_drewN ?_ _)|(with_reducible refine Kd.C_drew ?_)))
        (case side2 => exact HC354_2.out)
        (case side3 => repeat (first|exact (Kd.C_below HR354_5.out HB.out)|(with_reducible refine Kd.C_alloc ?_ _)|(with_reducible refine Kd.C_drewN ?_ _)|(with_reducible refine Kd.C_drew ?_)))
        (case side4 => exact HC354_5.out)
        (case side5 => repeat (first|exact (Kd.C_below HR355_2.out HB.out)|(with_reducible refine Kd.C_alloc ?_ _)|(with_reducible refine Kd.C_drewN ?_ _)|(with_reducible refine Kd.C_drew ?_)))
        (case side6 => exact HC355_2.out)
        (case side7 => repeat (first|exact (Kd.C_below HR355_5.out HB.out)|(with_reducible refine Kd.C_alloc ?_ _)|(with_reducible refine Kd.C_drewN ?_ _)|(with_reducible refine Kd.C_drew ?_)))
        (case side8 => exact HC355_5.out)
        rintro e w10 ⟨rfl,hb⟩
        refine ⟨_,rfl,?_⟩
        have n0_:=zm_ (below_step zB_ hb)
        clear HB
        have HB:=n0_
        clear n0_
        (try clear hb)
        (try clear hb2)
        (try clear hk)
        (try clear hi)
        refine hK.out _ _ ⟨((HB.out.cell (zb_ w _ hw354_0)).trans hw354_0),((HB.out.cell (zb_ w _ hw354_1)).trans hw354_1),((HB.out.cell (zb_ w _ hw354_2)).trans hw354_2),((HB.out.cell (zb_ w _ hw354_3)).trans hw354_3),((HB.out.cell (zb_ w _ hw354_4)).trans hw354_4),((HB.out.cell (zb_ w _ hw354_5)).trans hw354_5),((HB.out.cell (zb_ w _ hw355_0)).trans hw355_0),((HB.out.cell (zb_ w _ hw355_1)).trans hw355_1),((HB.out.cell (zb_ w _ hw355_2)).trans hw355_2),((HB.out.cell (zb_ w _ hw355_3)).trans hw355_3),((HB.out.cell (zb_ w _ hw355_4)).trans hw355_4),((HB.out.cell (zb_ w _ hw355_5)).trans hw355_5)⟩ (fun hHeld => ?_)
        clear hK K
        refine norm_ (a':=?_) ?_ ?_
        rotate_left
        ·show Act.put _ (some 25) _ = _
         simp only [Act.put,List.setIfInBounds_toArray,List.set_cons_zero,List.set_cons_succ,i64_w,i32_w,IntKind.wrap_u8]
         rfl
        refine pure_ (i:=9) (N:=some 26) (v:=?_) (a':=?_) #[true,true,true,true,true,true,true,true,true,true] rfl rfl (any_of HT_.out (by kernel_rfl)) (fun _ _ _ h => h) (Or.inl ⟨by rfl,?_⟩) ?_ ?_
        rotate_left
        ·intro w'
         go_simp
         with_reducible rfl
        rotate_left
        ·simp only [Act.put,List.setIfInBounds_toArray,List.set_cons_zero,List.set_cons_succ,i64_w,i32_w,IntKind.wrap_u8]
         rfl
        refine done_ (done_of HT_.out (by kernel_rfl)) ?_
        try go_wp2
        go_roundg k1
        case measure => have:=HK1.out;omega
        case rel => exact ⟨(wrap64 (x5_1 + 1)),zV_,H',⟨by have:=HK1.out;omega⟩,⟨by repeat (first|(with_reducible first|exact HB.out|apply za_|apply zn_|apply zd_)|exact HB.out)⟩⟩
       ·replace c8:=Bool.eq_false_iff.mpr c8
        subst c8
        have H1 : (some false) = some r:=by rw [if_neg (show ¬ (false = true) by decide)] at H;exact H
        clear H
        have H:=H1
        clear H1
        obtain rfl:=Option.some.inj H
        try go_wp2
        have n0_:=zm_ (zd_ HB.out)
        clear HB
        have HB:=n0_
        clear n0_
        have p354 : 0 ≤ (x5_1 : Int):=zo_
        have q354 : x5_1 < (l0.length : Int):=zo_
        obtain ⟨ad354,A354_2,c354_2,A354_5,c354_5,e354,hx354_0,hx354_1,hx354_2,hx354_3,hx354_4,hx354_5,hl354_2,hi354_2,hl354_5,hi354_5⟩:=at_T47 HR0.out x5_1 p354 q354
        have hw354_5:=hx354_5
        have hw354_4:=hx354_4
        have hw354_3:=hx354_3
        have hw354_2:=hx354_2
        have hw354_1:=hx354_1
        have hw354_0:=hx354_0
        cases e354
        replace hx354_0:=(HB.out.cell (zb_ w _ hx354_0)).trans hx354_0
        replace hx354_1:=(HB.out.cell (zb_ w _ hx354_1)).trans hx354_1
        replace hx354_2:=(HB.out.cell (zb_ w _ hx354_2)).trans hx354_2
        replace hx354_3:=(HB.out.cell (zb_ w _ hx354_3)).trans hx354_3
        replace hx354_4:=(HB.out.cell (zb_ w _ hx354_4)).trans hx354_4
        replace hx354_5:=(HB.out.cell (zb_ w _ hx354_5)).trans hx354_5
        have HR354_2:=zm_ hi354_2
        have HC354_2:=zm_ hl354_2
        clear hi354_2 hl354_2
        have HR354_5:=zm_ hi354_5
        have HC354_5:=zm_ hl354_5
        clear hi354_5 hl354_5
        replace p354:=eq_true p354
        replace q354:=eq_true q354
        have p355 : 0 ≤ (x5_1 : Int):=zo_
        have q355 : x5_1 < (l1.length : Int):=zo_
        obtain ⟨ad355,A355_2,c355_2,A355_5,c355_5,e355,hx355_0,hx355_1,hx355_2,hx355_3,hx355_4,hx355_5,hl355_2,hi355_2,hl355_5,hi355_5⟩:=at_T47 HR1.out x5_1 p355 q355
        have hw355_5:=hx355_5
        have hw355_4:=hx355_4
        have hw355_3:=hx355_3
        have hw355_2:=hx355_2
        have hw355_1:=hx355_1
        have hw355_0:=hx355_0
        cases e355
        replace hx355_0:=(HB.out.cell (zb_ w _ hx355_0)).trans hx355_0
        replace hx355_1:=(HB.out.cell (zb_ w _ hx355_1)).trans hx355_1
        replace hx355_2:=(HB.out.cell (zb_ w _ hx355_2)).trans hx355_2
        replace hx355_3:=(HB.out.cell (zb_ w _ hx355_3)).trans hx355_3
        replace hx355_4:=(HB.out.cell (zb_ w _ hx355_4)).trans hx355_4
        replace hx355_5:=(HB.out.cell (zb_ w _ hx355_5)).trans hx355_5
        have HR355_2:=zm_ hi355_2
        have HC355_2:=zm_ hl355_2
        clear hi355_2 hl355_2
        have HR355_5:=zm_ hi355_5
        have HC355_5:=zm_ hl355_5
        clear hi355_5 hl355_5
        replace p355:=eq_true p355
        replace q355:=eq_true q355
        refine start_ (n:=10) (S:=fun w' => w'.cell? (ad354.add ((x5_1).toNat * 6)) = some (.int .i64 ((rd_T47 l0 x5_1).f0)) ∧ w'.cell? ⟨(ad354.add ((x5_1).toNat * 6)).block,(ad354.add ((x5_1).toNat * 6)).off + 1,none⟩ = some (.int .i64 ((rd_T47 l0 x5_1).f1)) ∧ w'.cell? ⟨(ad354.add ((x5_1).toNat * 6)).block,(ad354.add ((x5_1).toNat * 6)).off + 2,none⟩ = some (.slice A354_2 ((rd_T47 l0 x5_1).f2).length c354_2) ∧ w'.cell? ⟨(ad354.add ((x5_1).toNat * 6)).block,(ad354.add ((x5_1).toNat * 6)).off + 3,none⟩ = some (.int .i64 ((rd_T47 l0 x5_1).f3)) ∧ w'.cell? ⟨(ad354.add ((x5_1).toNat * 6)).block,(ad354.add ((x5_1).toNat * 6)).off + 4,none⟩ = some (.int .i64 ((rd_T47 l0 x5_1).f4)) ∧ w'.cell? ⟨(ad354.add ((x5_1).toNat * 6)).block,(ad354.add ((x5_1).toNat * 6)).off + 5,none⟩ = some (.slice A354_5 ((rd_T47 l0 x5_1).f5).length c354_5) ∧ w'.cell? (ad355.add ((x5_1).toNat * 6)) = some (.int .i64 ((rd_T47 l1 x5_1).f0)) ∧ w'.cell? ⟨(ad355.add ((x5_1).toNat * 6)).block,(ad355.add ((x5_1).toNat * 6)).off + 1,none⟩ = some (.int .i64 ((rd_T47 l1 x5_1).f1)) ∧ w'.cell? ⟨(ad355.add ((x5_1).toNat * 6)).block,(ad355.add ((x5_1).toNat * 6)).off + 2,none⟩ = some (.slice A355_2 ((rd_T47 l1 x5_1).f2).length c355_2) ∧ w'.cell? ⟨(ad355.add ((x5_1).toNat * 6)).block,(ad355.add ((x5_1).toNat * 6)).off + 3,none⟩ = some (.int .i64 ((rd_T47 l1 x5_1).f3)) ∧ w'.cell? ⟨(ad355.add ((x5_1).toNat * 6)).block,(ad355.add ((x5_1).toNat * 6)).off + 4,none⟩ = some (.int .i64 ((rd_T47 l1 x5_1).f4)) ∧ w'.cell? ⟨(ad355.add ((x5_1).toNat * 6)).block,(ad355.add ((x5_1).toNat * 6)).off + 5,none⟩ = some (.slice A355_5 ((rd_T47 l1 x5_1).f5).length c355_5)) (ds:=[]) #[false,false,false,false,false,false,false,false,false,false] (by kernel_rfl) rfl rfl ⟨((HB.out.cell (zb_ w _ hw354_0)).trans hw354_0),((HB.out.cell (zb_ w _ hw354_1)).trans hw354_1),((HB.out.cell (zb_ w _ hw354_2)).trans hw354_2),((HB.out.cell (zb_ w _ hw354_3)).trans hw354_3),((HB.out.cell (zb_ w _ hw354_4)).trans hw354_4),((HB.out.cell (zb_ w _ hw354_5)).trans hw354_5),((HB.out.cell (zb_ w _ hw355_0)).trans hw355_0),((HB.out.cell (zb_ w _ hw355_1)).trans hw355_1),((HB.out.cell (zb_ w _ hw355_2)).trans hw355_2),((HB.out.cell (zb_ w _ hw355_3)).trans hw355_3),((HB.out.cell (zb_ w _ hw355_4)).trans hw355_4),((HB.out.cell (zb_ w _ hw355_5)).trans hw355_5)⟩ (fun hHeld => ?_);refine with_tabW laws_eqTreeNodeS.tab6 laws_eqTreeNodeS.bits6 (fun HT_ HW_ => ?_)
        generalize wr.drew = w11 at HB HR354_2 HR354_5 HR355_2 HR355_5 hx354_0 hx354_1 hx354_2 hx354_3 hx354_4 hx354_5 hx355_0 hx355_1 hx355_2 hx355_3 hx355_4 hx355_5 hHeld ⊢
        refine pure_ (i:=0) (N:=some 17) (v:=?_) (a':=?_) #[true,false,false,false,false,false,false,false,false,false] rfl rfl (any_of HT_.out (by kernel_rfl)) (fun _ _ _ h => h) (Or.inl ⟨by rfl,?_⟩) ?_ ?_
        rotate_left
        ·intro w'
         go_simp
         with_reducible rfl
        rotate_left
        ·simp only [Act.put,List.setIfInBounds_toArray,List.set_cons_zero,List.set_cons_succ,i64_w,i32_w,IntKind.wrap_u8]
         rfl
        refine pure_ (i:=1) (N:=some 18) (v:=?_) (a':=?_) #[true,true,false,false,false,false,false,false,false,false] rfl rfl (any_of HT_.out (by kernel_rfl)) (fun _ _ _ h => h) (Or.inl ⟨by rfl,?_⟩) ?_ ?_
        rotate_left
        ·intro w'
         go_simp
         with_reducible rfl
        rotate_left
        ·simp only [Act.put,List.setIfInBounds_toArray,List.set_cons_zero,List.set_cons_succ,i64_w,i32_w,IntKind.wrap_u8]
         rfl
        refine pure_ (i:=2) (N:=some 19) (v:=?_) (a':=?_) #[true,true,true,false,false,false,false,false,false,false] rfl rfl (any_of HT_.out (by kernel_rfl)) (fun _ _ _ h => h) (Or.inl ⟨by rfl,?_⟩) ?_ ?_
        rotate_left
        ·intro w'
         go_simp
         with_reducible rfl
        rotate_left
        ·simp only [Act.put,List.setIfInBounds_toArray,List.set_cons_zero,List.set_cons_succ,i64_w,i32_w,IntKind.wrap_u8]
         rfl
        refine pure_ (i:=4) (N:=some 21) (v:=?_) (a':=?_) #[true,true,true,false,true,false,false,false,false,false] rfl rfl (any_of HT_.out (by kernel_rfl)) (fun _ _ _ h => h) (Or.inl ⟨by rfl,?_⟩) ?_ ?_
        rotate_left
        ·intro w'
         go_simp
         with_reducible rfl
        rotate_left
        ·simp only [Act.put,List.setIfInBounds_toArray,List.set_cons_zero,List.set_cons_succ,i64_w,i32_w,IntKind.wrap_u8]
         rfl
        refine pure_ (i:=5) (N:=some 22) (v:=?_) (a':=?_) #[true,true,true,false,true,true,false,false,false,false] rfl rfl (any_of HT_.out (by kernel_rfl)) (fun _ _ _ h => h) (Or.inl ⟨by rfl,?_⟩) ?_ ?_
        rotate_left
        ·intro w'
         go_simp
         with_reducible rfl
        rotate_left
        ·simp only [Act.put,List.setIfInBounds_toArray,List.set_cons_zero,List.set_cons_succ,i64_w,i32_w,IntKind.wrap_u8]
         rfl
        refine pure_ (i:=6) (N:=some 23) (v:=?_) (a':=?_) #[true,true,true,false,true,true,true,false,false,false] rfl rfl (any_of HT_.out (by kernel_rfl)) (fun _ _ _ h => h) (Or.inl ⟨by rfl,?_⟩) ?_ ?_
        rotate_left
        ·intro w'
         go_simp
         with_reducible rfl
        rotate_left
        ·simp only [Act.put,List.setIfInBounds_toArray,List.set_cons_zero,List.set_cons_succ,i64_w,i32_w,IntKind.wrap_u8]
         rfl
        refine take_ (i:=3) (N:=some 20) (v:=?_) (a':=?_) #[true,true,true,true,true,true,true,false,false,false] rfl rfl (take_ofW HT_.out HW_.out (by kernel_rfl)) (fun _ _ _ h => h) (Or.inl ⟨by rfl,?_⟩) hHeld ?_ ?_
        rotate_left
        ·rintro w' ⟨s0,s1,s2,s3,s4,s5,s6,s7,s8,s9,s10,s11⟩
         go_simp
         with_reducible rfl
        rotate_left
        ·simp only [Act.put,List.setIfInBounds_toArray,List.set_cons_zero,List.set_cons_succ,i64_w,i32_w,IntKind.wrap_u8]
         rfl
        refine take_ (i:=7) (N:=some 24) (v:=?_) (a':=?_) #[true,true,true,true,true,true,true,true,false,false] rfl rfl (take_ofW HT_.out HW_.out (by kernel_rfl)) (fun _ _ _ h => h) (Or.inl ⟨by rfl,?_⟩) hHeld ?_ ?_
        rotate_left
        ·rintro w' ⟨s0,s1,s2,s3,s4,s5,s6,s7,s8,s9,s10,s11⟩
         go_simp
         with_reducible rfl
        rotate_left
        ·simp only [Act.put,List.setIfInBounds_toArray,List.set_cons_zero,List.set_cons_succ,i64_w,i32_w,IntKind.wrap_u8]
         rfl
        refine one_ (i:=8) (N:=some 25) #[true,true,true,true,true,true,true,true,true,false] rfl rfl (one_of HT_.out (by kernel_rfl)) (by decide) (fun K hK => ?_)
        refine goes_ Try.func31 (by kernel_rfl) rfl #[.agg #[.int .i64 ((rd_T47 l0 x5_1).f0),.int .i64 ((rd_T47 l0 x5_1).f1),.slice A354_2 ((rd_T47 l0 x5_1).f2).length c354_2,.int .i64 ((rd_T47 l0 x5_1).f3),.int .i64 ((rd_T47 l0 x5_1).f4),.slice A354_5 ((rd_T47 l0 x5_1).f5).length c354_5],.agg #[.int .i64 ((rd_T47 l1 x5_1).f0),.int .i64 ((rd_T47 l1 x5_1).f1),.slice A355_2 ((rd_T47 l1 x5_1).f2).length c355_2,.int .i64 ((rd_T47 l1 x5_1).f3),.int .i64 ((rd_T47 l1 x5_1).f4),.slice A355_5 ((rd_T47 l1 x5_1).f5).length c355_5]] (by rfl) rfl rfl zq_ ?_
        with_reducible refine (laws_eqTreeNode.calls k1 ((rd_T47 l0 x5_1).f0) ((rd_T47 l0 x5_1).f1) _ _ ((rd_T47 l0 x5_1).f2) ((rd_T47 l0 x5_1).f3) ((rd_T47 l0 x5_1).f4) _ _ ((rd_T47 l0 x5_1).f5) ((rd_T47 l1 x5_1).f0) ((rd_T47 l1 x5_1).f1) _ _ ((rd_T47 l1 x5_1).f2) ((rd_T47 l1 x5_1).f3) ((rd_T47 l1 x5_1).f4) _ _ ((rd_T47 l1 x5_1).f5) false _ ?side1 ?side2 ?side3 ?side4 ?side5 ?side6 ?side7 ?side8 A7.out).mono ?_
        (case side1 => repeat (first|exact (Kd.C_below HR354_2.out HB.out)|(with_reducible refine Kd.C_alloc ?_ _)|(with_reducible refine Kd.C_drewN ?_ _)|(with_reducible refine Kd.C_drew ?_)))
        (case side2 => exact HC354_2.out)
        (case side3 => repeat (first|exact (Kd.C_below HR354_5.out HB.out)|(with_reducible refine Kd.C_alloc ?_ _)|(with_reducible refine Kd.C_drewN ?_ _)|(with_reducible refine Kd.C_drew ?_)))
        (case side4 => exact HC354_5.out)
        (case side5 => repeat (first|exact (Kd.C_below HR355_2.out HB.out)|(with_reducible refine Kd.C_alloc ?_ _)|(with_reducible refine Kd.C_drewN ?_ _)|(with_reducible refine Kd.C_drew ?_)))
        (case side6 => exact HC355_2.out)
        (case side7 => repeat (first|exact (Kd.C_below HR355_5.out HB.out)|(with_reducible refine Kd.C_alloc ?_ _)|(with_reducible refine Kd.C_drewN ?_ _)|(with_reducible refine Kd.C_drew ?_)))
        (case side8 => exact HC355_5.out)
        rintro e w12 ⟨rfl,hb⟩
        refine ⟨_,rfl,?_⟩
        have n0_:=zm_ (below_step zB_ hb)
        clear HB
        have HB:=n0_
        clear n0_
        (try clear hb)
        (try clear hb2)
        (try clear hk)
        (try clear hi)
        refine hK.out _ _ ⟨((HB.out.cell (zb_ w _ hw354_0)).trans hw354_0),((HB.out.cell (zb_ w _ hw354_1)).trans hw354_1),((HB.out.cell (zb_ w _ hw354_2)).trans hw354_2),((HB.out.cell (zb_ w _ hw354_3)).trans hw354_3),((HB.out.cell (zb_ w _ hw354_4)).trans hw354_4),((HB.out.cell (zb_ w _ hw354_5)).trans hw354_5),((HB.out.cell (zb_ w _ hw355_0)).trans hw355_0),((HB.out.cell (zb_ w _ hw355_1)).trans hw355_1),((HB.out.cell (zb_ w _ hw355_2)).trans hw355_2),((HB.out.cell (zb_ w _ hw355_3)).trans hw355_3),((HB.out.cell (zb_ w _ hw355_4)).trans hw355_4),((HB.out.cell (zb_ w _ hw355_5)).trans hw355_5)⟩ (fun hHeld => ?_)
        clear hK K
        refine norm_ (a':=?_) ?_ ?_
        rotate_left
        ·show Act.put _ (some 25) _ = _
         simp only [Act.put,List.setIfInBounds_toArray,List.set_cons_zero,List.set_cons_succ,i64_w,i32_w,IntKind.wrap_u8]
         rfl
        refine pure_ (i:=9) (N:=some 26) (v:=?_) (a':=?_) #[true,true,true,true,true,true,true,true,true,true] rfl rfl (any_of HT_.out (by kernel_rfl)) (fun _ _ _ h => h) (Or.inl ⟨by rfl,?_⟩) ?_ ?_
        rotate_left
        ·intro w'
         go_simp
         with_reducible rfl
        rotate_left
        ·simp only [Act.put,List.setIfInBounds_toArray,List.set_cons_zero,List.set_cons_succ,i64_w,i32_w,IntKind.wrap_u8]
         rfl
        refine done_ (done_of HT_.out (by kernel_rfl)) ?_
        try go_wp2
        go_ret
        exact ⟨zE_,by repeat (first|(with_reducible first|exact HB.out|apply za_|apply zn_|apply zd_)|exact HB.out)⟩
      ·rw [if_neg c6] at H
       exact absurd H (by simp)
     ·rw [if_neg c5] at H
      exact absurd H (by simp)
    ·rw [if_neg c4] at H
     have c4b0 : decide (x5_1 < (l0.length : Int)) = false:=decide_eq_false c4
     clear c4
     obtain rfl:=Option.some.inj H
     go_wp2
     go_ret
     exact ⟨zE_,by repeat (first|(with_reducible first|exact HB.out|apply za_|apply zn_|apply zd_)|exact HB.out)⟩
 ·rw [if_neg c3] at H
  have c3b0 : ((l0.length : Int) == (l1.length : Int)) = false:=beq_eq_false_iff_ne.mpr c3
  have c3b1 : ((l0.length : Int) != (l1.length : Int)) = true:=bne_iff_ne.mpr c3
  have c3b2 : (l0.length == l1.length) = false:=by first|simpa using c3|(simp at c3 ⊢;omega)
  obtain rfl:=Option.some.inj H
  go_enter Try.func21,Try.ntmps21
  go_wp2
  go_ret
  exact ⟨zE_,by repeat (first|(with_reducible first|exact HB.out|apply za_|apply zn_|apply zd_)|exact HB.out)⟩

def laws_eqTree.f (k : Nat) (l0_0 : List (S47)) (l1_0 : List (S47)) : Option (Bool):=(laws_eqTreeNodeS.f k l0_0 l1_0).bind fun t359 => (if t359 = true then (some true) else (some false))
theorem laws_eqTree.mono : ∀ a0 a1 k,LeO (laws_eqTree.f k a0 a1) (laws_eqTree.f (k + 1) a0 a1):=by
 intro a0 a1 k
 unfold laws_eqTree.f
 repeat' first
   |(with_reducible exact laws_eqTreeNodeS.mono _ _ _)
   |(with_reducible exact LeO.refl _)
   |(with_reducible exact LeO.none _)
   |(with_reducible refine LeO.ite ?_ ?_)
   |(with_reducible refine LeO.bind ?_ (fun _ => ?_))
set_option maxHeartbeats 8000000 in
set_option maxRecDepth 100000 in
theorem laws_eqTree.calls (k : Nat) (A0_0 : Option Addr) (c0_0 : Nat) (l0_0 : List (S47)) (A1_0 : Option Addr) (c1_0 : Nat) (l1_0 : List (S47)) (r : Bool) (w : World) (hr0_0 : Kd.C k47 w A0_0 l0_0.length l0_0) (hc0_0 : l0_0.length ≤ c0_0) (hr1_0 : Kd.C k47 w A1_0 l1_0.length l1_0) (hc1_0 : l1_0.length ≤ c1_0) (h : laws_eqTree.f k l0_0 l1_0 = some r) :
  Calls Try.prog 11 #[.agg #[.slice A0_0 l0_0.length c0_0],.agg #[.slice A1_0 l1_0.length c1_0]] w fun e w' => e = .returned (.bool r) ∧ Below w.heap.size w w':=by
 have hu37:=Try.underlying37
 have HR0_0:=zm_ hr0_0
 have HC0_0:=zm_ hc0_0
 clear hr0_0 hc0_0
 have HR1_0:=zm_ hr1_0
 have HC1_0:=zm_ hc1_0
 clear hr1_0 hc1_0
 have HB:=zm_ (Below.refl w.heap.size w)
 have H : ((laws_eqTreeNodeS.f k l0_0 l1_0).bind fun t359 => (if t359 = true then (some true) else (some false))) = some r:=h
 clear h
 replace H:=Option.bind_eq_some_iff.mp H
 obtain ⟨t359,A30,H⟩:=H
 replace H : (if t359 = true then (some true) else (some false)) = some r:=H
 have A3:=zm_ A30
 clear A30
 by_cases c4 : t359 = true
 ·subst c4
  have H1 : (some true) = some r:=by rw [if_pos rfl] at H;exact H
  clear H
  have H:=H1
  clear H1
  obtain rfl:=Option.some.inj H
  go_enter Try.func11,Try.ntmps11
  go_wp2_with (first|((with_reducible refine gate_dst (N:=2) rfl ?_);refine box_event ?hg (N:=2) ?hd (cs:=#[.slice A0_0 l0_0.length c0_0]) (t:=37) ?hr ?_;(case hd => rfl);(case hg => rfl);(case hr => first|(go_simp;done)|(go_simp;rfl));intro gb357 hg w5 hbox hb;have n0_:=zm_ (below_step zB_ hb);have n1_:=zm_ (hbox);have n2_:=zm_ ((by rw [hg];exact (below_size zB_) : w.heap.size ≤ gb357));have n3_:=zm_ ((by rw [hg];exact (below_size zB_) : w.heap.size ≤ gb357));clear HB;have HB:=n0_;have BK357:=n1_;have GW357:=n2_;have GE357:=n3_;clear n0_ n1_ n2_ n3_;clear hb hbox hg)|((with_reducible refine gate_dst (N:=3) rfl ?_);refine box_event ?hg (N:=3) ?hd (cs:=#[.slice A1_0 l1_0.length c1_0]) (t:=37) ?hr ?_;(case hd => rfl);(case hg => rfl);(case hr => first|(go_simp;done)|(go_simp;rfl));intro gb358 hg w6 hbox hb;have n0_:=zm_ (blk_below (g:=gb357) (o:=.cells #[.slice A0_0 l0_0.length c0_0] 37 (0,0)) (by (with_reducible repeat first|refine zl_ ?_ _|refine zr_ ?_|refine zk_ ?_ _);exact BK357.out) hb);have n1_:=zm_ (below_step (by repeat (first|(with_reducible first|exact HB.out|apply za_|apply zn_|apply zd_|refine zs_ ?_ GE357.out)|exact HB.out)) hb);have n2_:=zm_ (hbox);have n3_:=zm_ ((by rw [hg];exact (below_size (by repeat (first|(with_reducible first|exact HB.out|apply za_|apply zn_|apply zd_|refine zs_ ?_ GE357.out)|exact HB.out))) : w.heap.size ≤ gb358));have n4_:=zm_ ((by rw [hg];exact (below_size (by repeat (first|(with_reducible first|exact HB.out|apply za_|apply zn_|apply zd_|refine zs_ ?_ GE357.out)|exact HB.out))) : w.heap.size ≤ gb358));have n5_:=zm_ ((by rw [hg];exact Nat.ne_of_lt (blk_lt (g:=gb357) (o:=.cells #[.slice A0_0 l0_0.length c0_0] 37 (0,0)) (by (with_reducible repeat first|refine zl_ ?_ _|refine zr_ ?_|refine zk_ ?_ _);exact BK357.out)) : gb357 ≠ gb358));have n6_:=zm_ ((by rw [hg];exact Nat.ne_of_gt (blk_lt (g:=gb357) (o:=.cells #[.slice A0_0 l0_0.length c0_0] 37 (0,0)) (by (with_reducible repeat first|refine zl_ ?_ _|refine zr_ ?_|refine zk_ ?_ _);exact BK357.out)) : gb358 ≠ gb357));clear BK357;clear HB;have BK357:=n0_;have HB:=n1_;have BK358:=n2_;have GW358:=n3_;have GE358:=n4_;have NB357_358:=n5_;have NB358_357:=n6_;clear n0_ n1_ n2_ n3_ n4_ n5_ n6_;clear hb hbox hg;have hnb7:=NB357_358.out;have hnc7:=NB358_357.out;have hcz8_0 : w6.cell? ⟨gb357,0,none⟩ = some (.slice A0_0 l0_0.length c0_0):=(zc_ BK357.out 0).trans rfl;have hfz8_0:=zf_ BK357.out 0;have hcz9_0 : w6.cell? ⟨gb358,0,none⟩ = some (.slice A1_0 l1_0.length c1_0):=(zc_ BK358.out 0).trans rfl;have hfz9_0:=zf_ BK358.out 0)|((with_reducible refine gate_callee (f:=21) rfl ?_);refine goesL_ (some 9) rfl rfl Try.func21 (by kernel_rfl) rfl #[.slice A0_0 l0_0.length c0_0,.slice A1_0 l1_0.length c1_0] rfl zq_ ?_;(with_reducible refine (laws_eqTreeNodeS.calls k _ _ l0_0 _ _ l1_0 true _ ?side1 ?side2 ?side3 ?side4 A3.out).mono ?_);(case side1 => repeat (first|exact (Kd.C_below HR0_0.out HB.out)|(with_reducible refine Kd.C_alloc ?_ _)|(with_reducible refine Kd.C_drewN ?_ _)|(with_reducible refine Kd.C_drew ?_)));(case side2 => exact HC0_0.out);(case side3 => repeat (first|exact (Kd.C_below HR1_0.out HB.out)|(with_reducible refine Kd.C_alloc ?_ _)|(with_reducible refine Kd.C_drewN ?_ _)|(with_reducible refine Kd.C_drew ?_)));(case side4 => exact HC1_0.out);rintro e w10 ⟨rfl,hb⟩;refine ⟨_,rfl,?_⟩;have n0_:=zm_ (blk_below (g:=gb357) (o:=.cells #[.slice A0_0 l0_0.length c0_0] 37 (0,0)) (by (with_reducible repeat first|refine zl_ ?_ _|refine zr_ ?_|refine zk_ ?_ _);exact BK357.out) hb);have n1_:=zm_ (blk_below (g:=gb358) (o:=.cells #[.slice A1_0 l1_0.length c1_0] 37 (0,0)) (by (with_reducible repeat first|refine zl_ ?_ _|refine zr_ ?_|refine zk_ ?_ _);exact BK358.out) hb);have n2_:=zm_ (below_step (by repeat (first|(with_reducible first|exact HB.out|apply za_|apply zn_|apply zd_|refine zs_ ?_ GE357.out|refine zs_ ?_ GE358.out)|exact HB.out)) hb);clear BK357;clear BK358;clear HB;have BK357:=n0_;have BK358:=n1_;have HB:=n2_;clear n0_ n1_ n2_;(try clear hb)))
  go_ret
  exact ⟨zE_,by repeat (first|(with_reducible first|exact HB.out|apply za_|apply zn_|apply zd_|refine zs_ ?_ GE357.out|refine zs_ ?_ GE358.out)|exact HB.out)⟩
 ·replace c4:=Bool.eq_false_iff.mpr c4
  subst c4
  have H1 : (some false) = some r:=by rw [if_neg (show ¬ (false = true) by decide)] at H;exact H
  clear H
  have H:=H1
  clear H1
  obtain rfl:=Option.some.inj H
  go_enter Try.func11,Try.ntmps11
  go_wp2_with (first|((with_reducible refine gate_dst (N:=2) rfl ?_);refine box_event ?hg (N:=2) ?hd (cs:=#[.slice A0_0 l0_0.length c0_0]) (t:=37) ?hr ?_;(case hd => rfl);(case hg => rfl);(case hr => first|(go_simp;done)|(go_simp;rfl));intro gb357 hg w11 hbox hb;have n0_:=zm_ (below_step zB_ hb);have n1_:=zm_ (hbox);have n2_:=zm_ ((by rw [hg];exact (below_size zB_) : w.heap.size ≤ gb357));have n3_:=zm_ ((by rw [hg];exact (below_size zB_) : w.heap.size ≤ gb357));clear HB;have HB:=n0_;have BK357:=n1_;have GW357:=n2_;have GE357:=n3_;clear n0_ n1_ n2_ n3_;clear hb hbox hg)|((with_reducible refine gate_dst (N:=3) rfl ?_);refine box_event ?hg (N:=3) ?hd (cs:=#[.slice A1_0 l1_0.length c1_0]) (t:=37) ?hr ?_;(case hd => rfl);(case hg => rfl);(case hr => first|(go_simp;done)|(go_simp;rfl));intro gb358 hg w12 hbox hb;have n0_:=zm_ (blk_below (g:=gb357) (o:=.cells #[.slice A0_0 l0_0.length c0_0] 37 (0,0)) (by (with_reducible repeat first|refine zl_ ?_ _|refine zr_ ?_|refine zk_ ?_ _);exact BK357.out) hb);have n1_:=zm_ (below_step (by repeat (first|(with_reducible first|exact HB.out|apply za_|apply zn_|apply zd_|refine zs_ ?_ GE357.out)|exact HB.out)) hb);have n2_:=zm_ (hbox);have n3_:=zm_ ((by rw [hg];exact (below_size (by repeat (first|(with_reducible first|exact HB.out|apply za_|apply zn_|apply zd_|refine zs_ ?_ GE357.out)|exact HB.out))) : w.heap.size ≤ gb358));have n4_:=zm_ ((by rw [hg];exact (below_size (by repeat (first|(with_reducible first|exact HB.out|apply za_|apply zn_|apply zd_|refine zs_ ?_ GE357.out)|exact HB.out))) : w.heap.size ≤ gb358));have n5_:=zm_ ((by rw [hg];exact Nat.ne_of_lt (blk_lt (g:=gb357) (o:=.cells #[.slice A0_0 l0_0.length c0_0] 37 (0,0)) (by (with_reducible repeat first|refine zl_ ?_ _|refine zr_ ?_|refine zk_ ?_ _);exact BK357.out)) : gb357 ≠ gb358));have n6_:=zm_ ((by rw [hg];exact Nat.ne_of_gt (blk_lt (g:=gb357) (o:=.cells #[.slice A0_0 l0_0.length c0_0] 37 (0,0)) (by (with_reducible repeat first|refine zl_ ?_ _|refine zr_ ?_|refine zk_ ?_ _);exact BK357.out)) : gb358 ≠ gb357));clear BK357;clear HB;have BK357:=n0_;have HB:=n1_;have BK358:=n2_;have GW358:=n3_;have GE358:=n4_;have NB357_358:=n5_;have NB358_357:=n6_;clear n0_ n1_ n2_ n3_ n4_ n5_ n6_;clear hb hbox hg;have hnb13:=NB357_358.out;have hnc13:=NB358_357.out;have hcz14_0 : w12.cell? ⟨gb357,0,none⟩ = some (.slice A0_0 l0_0.length c0_0):=(zc_ BK357.out 0).trans rfl;have hfz14_0:=zf_ BK357.out 0;have hcz15_0 : w12.cell? ⟨gb358,0,none⟩ = some (.slice A1_0 l1_0.length c1_0):=(zc_ BK358.out 0).trans rfl;have hfz15_0:=zf_ BK358.out 0)|((with_reducible refine gate_callee (f:=21) rfl ?_);refine goesL_ (some 9) rfl rfl Try.func21 (by kernel_rfl) rfl #[.slice A0_0 l0_0.length c0_0,.slice A1_0 l1_0.length c1_0] rfl zq_ ?_;(with_reducible refine (laws_eqTreeNodeS.calls k _ _ l0_0 _ _ l1_0 false _ ?side1 ?side2 ?side3 ?side4 A3.out).mono ?_);(case side1 => repeat (first|exact (Kd.C_below HR0_0.out HB.out)|(with_reducible refine Kd.C_alloc ?_ _)|(with_reducible refine Kd.C_drewN ?_ _)|(with_reducible refine Kd.C_drew ?_)));(case side2 => exact HC0_0.out);(case side3 => repeat (first|exact (Kd.C_below HR1_0.out HB.out)|(with_reducible refine Kd.C_alloc ?_ _)|(with_reducible refine Kd.C_drewN ?_ _)|(with_reducible refine Kd.C_drew ?_)));(case side4 => exact HC1_0.out);rintro e w16 ⟨rfl,hb⟩;refine ⟨_,rfl,?_⟩;have n0_:=zm_ (blk_below (g:=gb357) (o:=.cells #[.slice A0_0 l0_0.length c0_0] 37 (0,0)) (by (with_reducible repeat first|refine zl_ ?_ _|refine zr_ ?_|refine zk_ ?_ _);exact BK357.out) hb);have n1_:=zm_ (blk_below (g:=gb358) (o:=.cells #[.slice A1_0 l1_0.length c1_0] 37 (0,0)) (by (with_reducible repeat first|refine zl_ ?_ _|refine zr_ ?_|refine zk_ ?_ _);exact BK358.out) hb);have n2_:=zm_ (below_step (by repeat (first|(with_reducible first|exact HB.out|apply za_|apply zn_|apply zd_|refine zs_ ?_ GE357.out|refine zs_ ?_ GE358.out)|exact HB.out)) hb);clear BK357;clear BK358;clear HB;have BK357:=n0_;have BK358:=n1_;have HB:=n2_;clear n0_ n1_ n2_;(try clear hb)))
  go_ret
  exact ⟨zE_,by repeat (first|(with_reducible first|exact HB.out|apply za_|apply zn_|apply zd_|refine zs_ ?_ GE357.out|refine zs_ ?_ GE358.out)|exact HB.out)⟩

end Go.Proofs.Ytkbgmojomgelbaa.MFnExactTreeText
