import Derived.Test.YtkbgmojomgelbaaMFnExactTreeTextx0
import Derived.Test.YtkbgmojomgelbaaMFnExactTreeTextx2
namespace Go.Proofs.Ytkbgmojomgelbaa.MFnExactTreeText
open Go.RowKit Go.Proofs.YtkbgmojomgelbaaW.PrintWords Go.Proofs.YtkbgmojomgelbaaW.PrintLast Go.Proofs.YtkbgmojomgelbaaW.PrintMore
attribute [local go_sem] max2_int min2_int max_two min_two max_three min_three max_four min_four
set_option linter.unusedVariables false
set_option linter.unusedSimpArgs false

mutual
def spec_TreeText.l0 : Nat → List ByteArray → Int → List (S51) → List (S47) → Option (ByteArray)
 |0,_,_,_,_ => none
 |k + 1,x5,x6,x133000,x134000 => if x6 < (x134000.length : Int) then (if 0 ≤ x6 then ((spec_l01In.f ((rd_T47 x134000 x6).f0) 0 (wrap64 ((x133000.length : Int) - 1))).bind fun t140 => (if t140 = true then (if 0 ≤ ((rd_T47 x134000 x6).f0) then (if ((rd_T47 x134000 x6).f0) < (x133000.length : Int) then (if ((rd_T51 x133000 ((rd_T47 x134000 x6).f0)).f0).size + 1 ≤ 9223372036854775807 then (spec_TreeText.l1 k x5 x6 (((rd_T51 x133000 ((rd_T47 x134000 x6).f0)).f0) ++ (⟨#[40]⟩ : ByteArray)) 0 x133000 x134000 ((rd_T47 x134000 x6).f0) ((rd_T47 x134000 x6).f1) ((rd_T47 x134000 x6).f2) ((rd_T47 x134000 x6).f3) ((rd_T47 x134000 x6).f4) ((rd_T47 x134000 x6).f5)) else (none)) else (none)) else (none)) else (some (⟨#[]⟩ : ByteArray)))) else (none)) else (if (x5.length : Int) = 0 then (some (⟨#[]⟩ : ByteArray)) else (if 0 ≤ (wrap64 ((x5.length : Int) - 1)) then (if (wrap64 ((x5.length : Int) - 1)) < (x5.length : Int) then (some (rdOf ByteArray.empty x5 (wrap64 ((x5.length : Int) - 1)))) else (none)) else (none)))
def spec_TreeText.l1 : Nat → List ByteArray → Int → ByteArray → Int → List (S51) → List (S47) → Int → Int → List Int → Int → Int → List Int → Option (ByteArray)
 |0,_,_,_,_,_,_,_,_,_,_,_,_ => none
 |k + 1,x5,x6,x8,x9,x133000,x134000,x140000,x140001,x140002,x140003,x140004,x140005 => if x9 < (x140005.length : Int) then (if 0 ≤ x9 then ((spec_l01In.f (rd x140005 x9) 0 (wrap64 (x6 - 1))).bind fun t146 => (if t146 = true then (if x9 > 0 then (if x8.size + 1 ≤ 9223372036854775807 then (if 0 ≤ (rd x140005 x9) then (if (rd x140005 x9) < (x5.length : Int) then (if (x8 ++ (⟨#[32]⟩ : ByteArray)).size + (rdOf ByteArray.empty x5 (rd x140005 x9)).size ≤ 9223372036854775807 then (spec_TreeText.l1 k x5 x6 ((x8 ++ (⟨#[32]⟩ : ByteArray)) ++ (rdOf ByteArray.empty x5 (rd x140005 x9))) (wrap64 (x9 + 1)) x133000 x134000 x140000 x140001 x140002 x140003 x140004 x140005) else (none)) else (none)) else (none)) else (none)) else (if 0 ≤ (rd x140005 x9) then (if (rd x140005 x9) < (x5.length : Int) then (if x8.size + (rdOf ByteArray.empty x5 (rd x140005 x9)).size ≤ 9223372036854775807 then (spec_TreeText.l1 k x5 x6 (x8 ++ (rdOf ByteArray.empty x5 (rd x140005 x9))) (wrap64 (x9 + 1)) x133000 x134000 x140000 x140001 x140002 x140003 x140004 x140005) else (none)) else (none)) else (none))) else (some (⟨#[]⟩ : ByteArray)))) else (none)) else (if x8.size + 1 ≤ 9223372036854775807 then (if ((x8 ++ (⟨#[41]⟩ : ByteArray)).size : Int) > 2000 then (some (⟨#[]⟩ : ByteArray)) else (if x5.length < 8796093022208 then (spec_TreeText.l0 k (x5 ++ [x8 ++ (⟨#[41]⟩ : ByteArray)]) (wrap64 (x6 + 1)) x133000 x134000) else (none))) else (none))
end
def spec_TreeText.f (k : Nat) (l0_0 : List (S51)) (l1_0 : List (S47)) : Option (ByteArray):=spec_TreeText.l0 k (([] : List ByteArray)) 0 l0_0 l1_0
theorem spec_TreeText.mono_l : ∀ k,(∀ y0 y1 y2 y3,LeO (spec_TreeText.l0 k y0 y1 y2 y3) (spec_TreeText.l0 (k + 1) y0 y1 y2 y3)) ∧ (∀ y0 y1 y2 y3 y4 y5 y6 y7 y8 y9 y10 y11,LeO (spec_TreeText.l1 k y0 y1 y2 y3 y4 y5 y6 y7 y8 y9 y10 y11) (spec_TreeText.l1 (k + 1) y0 y1 y2 y3 y4 y5 y6 y7 y8 y9 y10 y11))
 |0 => ⟨fun _ _ _ _ r h => by simp [spec_TreeText.l0] at h,fun _ _ _ _ _ _ _ _ _ _ _ _ r h => by simp [spec_TreeText.l1] at h⟩
 |k + 1 => by
  obtain ⟨ih0,ih1⟩:=spec_TreeText.mono_l k
  refine ⟨?_,?_⟩
  ·intro y0 y1 y2 y3
   unfold spec_TreeText.l0
   repeat' first
   |(with_reducible exact ih0 _ _ _ _)
   |(with_reducible exact ih1 _ _ _ _ _ _ _ _ _ _ _ _)
   |(with_reducible exact LeO.refl _)
   |(with_reducible exact LeO.none _)
   |(with_reducible refine LeO.ite ?_ ?_)
   |(with_reducible refine LeO.bind ?_ (fun _ => ?_))
  ·intro y0 y1 y2 y3 y4 y5 y6 y7 y8 y9 y10 y11
   unfold spec_TreeText.l1
   repeat' first
   |(with_reducible exact ih0 _ _ _ _)
   |(with_reducible exact ih1 _ _ _ _ _ _ _ _ _ _ _ _)
   |(with_reducible exact LeO.refl _)
   |(with_reducible exact LeO.none _)
   |(with_reducible refine LeO.ite ?_ ?_)
   |(with_reducible refine LeO.bind ?_ (fun _ => ?_))
theorem spec_TreeText.mono : ∀ a0 a1 k,LeO (spec_TreeText.f k a0 a1) (spec_TreeText.f (k + 1) a0 a1):=by
 intro a0 a1 k
 obtain ⟨ih0,ih1⟩:=spec_TreeText.mono_l k
 unfold spec_TreeText.f
 repeat' first
   |(with_reducible exact ih0 _ _ _ _)
   |(with_reducible exact ih1 _ _ _ _ _ _ _ _ _ _ _ _)
   |(with_reducible exact LeO.refl _)
   |(with_reducible exact LeO.none _)
   |(with_reducible refine LeO.ite ?_ ?_)
   |(with_reducible refine LeO.bind ?_ (fun _ => ?_))
set_option maxHeartbeats 8000000 in
set_option maxRecDepth 100000 in
theorem spec_TreeText.calls (k : Nat) (A0_0 : Option Addr) (c0_0 : Nat) (l0_0 : List (S51)) (A1_0 : Option Addr) (c1_0 : Nat) (l1_0 : List (S47)) (r : ByteArray) (w : World) (hr0_0 : Kd.C k51 w A0_0 l0_0.length l0_0) (hc0_0 : l0_0.length ≤ c0_0) (hr1_0 : Kd.C k47 w A1_0 l1_0.length l1_0) (hc1_0 : l1_0.length ≤ c1_0) (h : spec_TreeText.f k l0_0 l1_0 = some r) :
  Calls Try.prog 6 #[.agg #[.slice A0_0 l0_0.length c0_0],.agg #[.slice A1_0 l1_0.length c1_0]] w fun e w' => e = .returned (.string r) ∧ Below w.heap.size w w':=by
 have hu33:=Try.underlying33
 have hu37:=Try.underlying37
 have hu47:=Try.underlying47
 have HR0_0:=zm_ hr0_0
 have HC0_0:=zm_ hc0_0
 clear hr0_0 hc0_0
 have HR1_0:=zm_ hr1_0
 have HC1_0:=zm_ hc1_0
 clear hr1_0 hc1_0
 have HB:=zm_ (Below.refl w.heap.size w)
 have H : (spec_TreeText.l0 k (([] : List ByteArray)) 0 l0_0 l1_0) = some r:=h
 clear h
 obtain ⟨y134,hy134⟩ : ∃ y_ : List ByteArray,y_ = (([] : List ByteArray)):=⟨_,rfl⟩
 replace H : (spec_TreeText.l0 k y134 0 l0_0 l1_0) = some r:=by first|(rw [hy134];with_reducible exact H)|(have H2_:=(Option.bind_some _ _).symm.trans H;rw [hy134];with_reducible exact H2_)|(have H2_:=(Option.bind_some _ _).symm.trans H;with_reducible exact H2_)|with_reducible exact H|(rw [hy134];exact H)|exact H
 have Ny134:=zm_ hy134
 clear hy134
 have H':=zm_ H
 clear H
 go_enter Try.func6,Try.ntmps6
 go_wp2_with (first|((with_reducible refine gate_dst (N:=2) rfl ?_);refine box_event ?hg (N:=2) ?hd (cs:=#[.slice A0_0 l0_0.length c0_0]) (t:=33) ?hr ?_;(case hd => rfl);(case hg => rfl);(case hr => first|(go_simp;done)|(go_simp;rfl));intro gb132 hg w3 hbox hb;have n0_:=zm_ (below_step zB_ hb);have n1_:=zm_ (hbox);have n2_:=zm_ ((by rw [hg];exact (below_size zB_) : w.heap.size ≤ gb132));have n3_:=zm_ ((by rw [hg];exact (below_size zB_) : w.heap.size ≤ gb132));clear HB;have HB:=n0_;have BK132:=n1_;have GW132:=n2_;have GE132:=n3_;clear n0_ n1_ n2_ n3_;clear hb hbox hg)|((with_reducible refine gate_dst (N:=3) rfl ?_);refine box_event ?hg (N:=3) ?hd (cs:=#[.slice A1_0 l1_0.length c1_0]) (t:=37) ?hr ?_;(case hd => rfl);(case hg => rfl);(case hr => first|(go_simp;done)|(go_simp;rfl));intro gb133 hg w4 hbox hb;have n0_:=zm_ (blk_below (g:=gb132) (o:=.cells #[.slice A0_0 l0_0.length c0_0] 33 (0,0)) (by (with_reducible repeat first|refine zl_ ?_ _|refine zr_ ?_|refine zk_ ?_ _);exact BK132.out) hb);have n1_:=zm_ (below_step (by repeat (first|(with_reducible first|exact HB.out|apply za_|apply zn_|apply zd_|refine zs_ ?_ GE132.out)|exact HB.out)) hb);have n2_:=zm_ (hbox);have n3_:=zm_ ((by rw [hg];exact (below_size (by repeat (first|(with_reducible first|exact HB.out|apply za_|apply zn_|apply zd_|refine zs_ ?_ GE132.out)|exact HB.out))) : w.heap.size ≤ gb133));have n4_:=zm_ ((by rw [hg];exact (below_size (by repeat (first|(with_reducible first|exact HB.out|apply za_|apply zn_|apply zd_|refine zs_ ?_ GE132.out)|exact HB.out))) : w.heap.size ≤ gb133));have n5_:=zm_ ((by rw [hg];exact Nat.ne_of_lt (blk_lt (g:=gb132) (o:=.cells #[.slice A0_0 l0_0.length c0_0] 33 (0,0)) (by (with_reducible repeat first|refine zl_ ?_ _|refine zr_ ?_|refine zk_ ?_ _);exact BK132.out)) : gb132 ≠ gb133));have n6_:=zm_ ((by rw [hg];exact Nat.ne_of_gt (blk_lt (g:=gb132) (o:=.cells #[.slice A0_0 l0_0.length c0_0] 33 (0,0)) (by (with_reducible repeat first|refine zl_ ?_ _|refine zr_ ?_|refine zk_ ?_ _);exact BK132.out)) : gb133 ≠ gb132));clear BK132;clear HB;have BK132:=n0_;have HB:=n1_;have BK133:=n2_;have GW133:=n3_;have GE133:=n4_;have NB132_133:=n5_;have NB133_132:=n6_;clear n0_ n1_ n2_ n3_ n4_ n5_ n6_;clear hb hbox hg)|((with_reducible refine gate_dst (N:=10) rfl ?_);refine Kd.R_lit Kd.string _ 9 ?hg (N:=10) ?hd (xs:=([] : List ByteArray)) (inner:=[]) (ok:=fun _ => True) (okp:=fun _ => True) ?hr ?hp (fun _ hk => hk) trivial (Below.refl _ _) (Nat.le_refl _) (by simp) ?_;(case hd => rfl);(case hg => rfl);(case hr => first|(go_simp;done)|(go_simp;rfl));(case hp => exact (Reps.none _ _));intro v135 w5 ho6 hb hg_ hnew_;clear hg_ hnew_;(first|rw [← Ny134.out] at ho6|(simp only [Int.reduceToNat] at ho6;rw [← Ny134.out] at ho6));have n0_:=zm_ (Kd.R_lower ho6 (below_size (by repeat (first|(with_reducible first|exact HB.out|apply za_|apply zn_|apply zd_|refine zs_ ?_ GE132.out|refine zs_ ?_ GE133.out)|exact HB.out))));have n1_:=zm_ (blk_below (g:=gb132) (o:=.cells #[.slice A0_0 l0_0.length c0_0] 33 (0,0)) (by (with_reducible repeat first|refine zl_ ?_ _|refine zr_ ?_|refine zk_ ?_ _);exact BK132.out) hb);have n2_:=zm_ (blk_below (g:=gb133) (o:=.cells #[.slice A1_0 l1_0.length c1_0] 37 (0,0)) (by (with_reducible repeat first|refine zl_ ?_ _|refine zr_ ?_|refine zk_ ?_ _);exact BK133.out) hb);have n3_:=zm_ (below_step (by repeat (first|(with_reducible first|exact HB.out|apply za_|apply zn_|apply zd_|refine zs_ ?_ GE132.out|refine zs_ ?_ GE133.out)|exact HB.out)) hb);clear BK132;clear BK133;clear HB;have HO136:=n0_;have BK132:=n1_;have BK133:=n2_;have HB:=n3_;clear n0_ n1_ n2_ n3_;clear hb ho6))
 go_loopg [5,6] k (fun kq v5 v6 w' => ∃ (x5_1 : List ByteArray) (x6_1 : Int),v6 = .int .i64 x6_1 ∧ Aside0 (spec_TreeText.l0 kq x5_1 x6_1 l0_0 l1_0 = some r) ∧ Aside0 (kq ≤ k) ∧ Aside0 (Kd.R Kd.string 9 w' w.heap.size (fun _ => True) v5 x5_1) ∧ Aside0 (w'.heap[gb132]? = some (.cells #[(.slice A0_0 l0_0.length c0_0)] 33 (0,0))) ∧ Aside0 (w'.heap[gb133]? = some (.cells #[(.slice A1_0 l1_0.length c1_0)] 37 (0,0))) ∧ Aside0 (Below w.heap.size w w'))
 case atStart => exact ⟨(y134),(0),zV_,H',⟨Nat.le_refl _⟩,⟨by (with_reducible repeat (first|apply Kd.R_alloc|apply Kd.R_drewN|apply Kd.R_drew));exact HO136.out⟩,⟨by (with_reducible repeat first|refine zl_ ?_ _|refine zr_ ?_|refine zk_ ?_ _);exact BK132.out⟩,⟨by (with_reducible repeat first|refine zl_ ?_ _|refine zr_ ?_|refine zk_ ?_ _);exact BK133.out⟩,⟨by repeat (first|(with_reducible first|exact HB.out|apply za_|apply zn_|apply zd_|refine zs_ ?_ GE132.out|refine zs_ ?_ GE133.out)|exact HB.out)⟩⟩
 case round =>
  clear H'
  try clear c1
  try clear p2
  try clear c6
  obtain ⟨x5_1,x6_1,rfl,HA,HK1,HO_5,BK132,BK133,HB⟩:=hrel
  cases gk with
  |zero => exact absurd HA.out (by simp [spec_TreeText.l0])
  |succ k1 =>
   have H:=HA.out
   clear HA
   simp only [spec_TreeText.l0] at H
   by_cases c7 : x6_1 < (l1_0.length : Int)
   ·rw [if_pos c7] at H
    have c7b0 : decide (x6_1 < (l1_0.length : Int)) = true:=decide_eq_true c7
    clear c7
    by_cases c8 : 0 ≤ x6_1
    ·rw [if_pos c8] at H
     have c8b0 : decide (0 ≤ x6_1) = true:=decide_eq_true c8
     clear c8
     replace H:=Option.bind_eq_some_iff.mp H
     obtain ⟨t140,A90,H⟩:=H
     replace H : (if t140 = true then (if 0 ≤ ((rd_T47 l1_0 x6_1).f0) then (if ((rd_T47 l1_0 x6_1).f0) < (l0_0.length : Int) then (if ((rd_T51 l0_0 ((rd_T47 l1_0 x6_1).f0)).f0).size + 1 ≤ 9223372036854775807 then (spec_TreeText.l1 k1 x5_1 x6_1 (((rd_T51 l0_0 ((rd_T47 l1_0 x6_1).f0)).f0) ++ (⟨#[40]⟩ : ByteArray)) 0 l0_0 l1_0 ((rd_T47 l1_0 x6_1).f0) ((rd_T47 l1_0 x6_1).f1) ((rd_T47 l1_0 x6_1).f2) ((rd_T47 l1_0 x6_1).f3) ((rd_T47 l1_0 x6_1).f4) ((rd_T47 l1_0 x6_1).f5)) else (none)) else (none)) else (none)) else (some (⟨#[]⟩ : ByteArray))) = some r:=H
     have A9:=zm_ A90
     clear A90
     by_cases c10 : t140 = true
     ·subst c10
      have H1 : (if 0 ≤ ((rd_T47 l1_0 x6_1).f0) then (if ((rd_T47 l1_0 x6_1).f0) < (l0_0.length : Int) then (if ((rd_T51 l0_0 ((rd_T47 l1_0 x6_1).f0)).f0).size + 1 ≤ 9223372036854775807 then (spec_TreeText.l1 k1 x5_1 x6_1 (((rd_T51 l0_0 ((rd_T47 l1_0 x6_1).f0)).f0) ++ (⟨#[40]⟩ : ByteArray)) 0 l0_0 l1_0 ((rd_T47 l1_0 x6_1).f0) ((rd_T47 l1_0 x6_1).f1) ((rd_T47 l1_0 x6_1).f2) ((rd_T47 l1_0 x6_1).f3) ((rd_T47 l1_0 x6_1).f4) ((rd_T47 l1_0 x6_1).f5)) else (none)) else (none)) else (none)) = some r:=by rw [if_pos rfl] at H;exact H
      clear H
      have H:=H1
      clear H1
      by_cases c11 : 0 ≤ ((rd_T47 l1_0 x6_1).f0)
      ·rw [if_pos c11] at H
       have c11b0 : decide (0 ≤ ((rd_T47 l1_0 x6_1).f0)) = true:=decide_eq_true c11
       clear c11
       by_cases c12 : ((rd_T47 l1_0 x6_1).f0) < (l0_0.length : Int)
       ·rw [if_pos c12] at H
        have c12b0 : decide (((rd_T47 l1_0 x6_1).f0) < (l0_0.length : Int)) = true:=decide_eq_true c12
        clear c12
        by_cases c13 : ((rd_T51 l0_0 ((rd_T47 l1_0 x6_1).f0)).f0).size + 1 ≤ 9223372036854775807
        ·rw [if_pos c13] at H
         have c13b0:=eq_true c13
         have c13b1 : decide (((rd_T51 l0_0 ((rd_T47 l1_0 x6_1).f0)).f0).size + 1 ≤ 9223372036854775807) = true:=decide_eq_true c13
         try have c13b2 : (9223372036854775807 < ((rd_T51 l0_0 ((rd_T47 l1_0 x6_1).f0)).f0).size + 1) = False:=eq_false (Nat.not_lt.2 c13)
         have H':=zm_ H
         clear H
         have hnb14:=NB133_132.out
         have hnc14:=NB132_133.out
         have hcz15_0 : wr.cell? ⟨gb133,0,none⟩ = some (.slice A1_0 l1_0.length c1_0):=(zc_ BK133.out 0).trans rfl
         have hfz15_0:=zf_ BK133.out 0
         have p138 : 0 ≤ (x6_1 : Int):=zo_
         have q138 : x6_1 < (l1_0.length : Int):=zo_
         obtain ⟨ad138,A138_2,c138_2,A138_5,c138_5,e138,hx138_0,hx138_1,hx138_2,hx138_3,hx138_4,hx138_5,hl138_2,hi138_2,hl138_5,hi138_5⟩:=at_T47 HR1_0.out x6_1 p138 q138
         cases e138
         replace hx138_0:=(HB.out.cell (zb_ w _ hx138_0)).trans hx138_0
         replace hx138_1:=(HB.out.cell (zb_ w _ hx138_1)).trans hx138_1
         replace hx138_2:=(HB.out.cell (zb_ w _ hx138_2)).trans hx138_2
         replace hx138_3:=(HB.out.cell (zb_ w _ hx138_3)).trans hx138_3
         replace hx138_4:=(HB.out.cell (zb_ w _ hx138_4)).trans hx138_4
         replace hx138_5:=(HB.out.cell (zb_ w _ hx138_5)).trans hx138_5
         have HR138_2:=zm_ hi138_2
         have HC138_2:=zm_ hl138_2
         clear hi138_2 hl138_2
         have HR138_5:=zm_ hi138_5
         have HC138_5:=zm_ hl138_5
         clear hi138_5 hl138_5
         replace p138:=eq_true p138
         replace q138:=eq_true q138
         go_wp2_with (first|((with_reducible refine gate_dst (N:=7) rfl ?_);refine box_event ?hg (N:=7) ?hd (cs:=#[.int .i64 0,.int .i64 0,.slice none 0 0,.int .i64 0,.int .i64 0,.slice none 0 0]) (t:=47) ?hr ?_;(case hd => rfl);(case hg => rfl);(case hr => first|(go_simp;done)|(go_simp;rfl));intro gb139 hg w16 hbox hb;have n0_:=zm_ (Kd.R_below (by (with_reducible repeat (first|apply Kd.R_alloc|apply Kd.R_drewN|apply Kd.R_drew));exact HO_5.out) hb);have n1_:=zm_ (blk_below (g:=gb132) (o:=.cells #[.slice A0_0 l0_0.length c0_0] 33 (0,0)) (by (with_reducible repeat first|refine zl_ ?_ _|refine zr_ ?_|refine zk_ ?_ _);exact BK132.out) hb);have n2_:=zm_ (blk_below (g:=gb133) (o:=.cells #[.slice (some ad138) l1_0.length c1_0] 37 (0,0)) (by (with_reducible repeat first|refine zl_ ?_ _|refine zr_ ?_|refine zk_ ?_ _);exact BK133.out) hb);have n3_:=zm_ (below_step (by repeat (first|(with_reducible first|exact HB.out|apply za_|apply zn_|apply zd_|refine zs_ ?_ GE132.out|refine zs_ ?_ GE133.out)|exact HB.out)) hb);have n4_:=zm_ (hbox);have n5_:=zm_ ((by rw [hg];exact (below_size (by repeat (first|(with_reducible first|exact HB.out|apply za_|apply zn_|apply zd_|refine zs_ ?_ GE132.out|refine zs_ ?_ GE133.out)|exact HB.out))) : w.heap.size ≤ gb139));have n6_:=zm_ ((by rw [hg];exact (below_size (by repeat (first|(with_reducible first|exact HB.out|apply za_|apply zn_|apply zd_|refine zs_ ?_ GE132.out|refine zs_ ?_ GE133.out)|exact HB.out))) : w.heap.size ≤ gb139));have n7_:=zm_ ((by rw [hg];exact Nat.ne_of_lt (blk_lt (g:=gb132) (o:=.cells #[.slice A0_0 l0_0.length c0_0] 33 (0,0)) (by (with_reducible repeat first|refine zl_ ?_ _|refine zr_ ?_|refine zk_ ?_ _);exact BK132.out)) : gb132 ≠ gb139));have n8_:=zm_ ((by rw [hg];exact Nat.ne_of_gt (blk_lt (g:=gb132) (o:=.cells #[.slice A0_0 l0_0.length c0_0] 33 (0,0)) (by (with_reducible repeat first|refine zl_ ?_ _|refine zr_ ?_|refine zk_ ?_ _);exact BK132.out)) : gb139 ≠ gb132));have n9_:=zm_ ((by rw [hg];exact Nat.ne_of_lt (blk_lt (g:=gb133) (o:=.cells #[.slice (some ad138) l1_0.length c1_0] 37 (0,0)) (by (with_reducible repeat first|refine zl_ ?_ _|refine zr_ ?_|refine zk_ ?_ _);exact BK133.out)) : gb133 ≠ gb139));have n10_:=zm_ ((by rw [hg];exact Nat.ne_of_gt (blk_lt (g:=gb133) (o:=.cells #[.slice (some ad138) l1_0.length c1_0] 37 (0,0)) (by (with_reducible repeat first|refine zl_ ?_ _|refine zr_ ?_|refine zk_ ?_ _);exact BK133.out)) : gb139 ≠ gb133));clear HO_5;clear BK132;clear BK133;clear HB;have HO_5:=n0_;have BK132:=n1_;have BK133:=n2_;have HB:=n3_;have BK139:=n4_;have GW139:=n5_;have GE139:=n6_;have NB132_139:=n7_;have NB139_132:=n8_;have NB133_139:=n9_;have NB139_133:=n10_;clear n0_ n1_ n2_ n3_ n4_ n5_ n6_ n7_ n8_ n9_ n10_;clear hb hbox hg;have hnb17:=NB139_132.out;have hnc17:=NB132_139.out;have hnb18:=NB139_133.out;have hnc18:=NB133_139.out;have hcz19_0 : w16.cell? ⟨gb139,0,none⟩ = some (.int .i64 0):=(zc_ BK139.out 0).trans rfl;have hcz19_1 : w16.cell? ⟨gb139,1,none⟩ = some (.int .i64 0):=(zc_ BK139.out 1).trans rfl;have hcz19_2 : w16.cell? ⟨gb139,2,none⟩ = some (.slice none 0 0):=(zc_ BK139.out 2).trans rfl;have hcz19_3 : w16.cell? ⟨gb139,3,none⟩ = some (.int .i64 0):=(zc_ BK139.out 3).trans rfl;have hcz19_4 : w16.cell? ⟨gb139,4,none⟩ = some (.int .i64 0):=(zc_ BK139.out 4).trans rfl;have hcz19_5 : w16.cell? ⟨gb139,5,none⟩ = some (.slice none 0 0):=(zc_ BK139.out 5).trans rfl;have hfz19_0:=zf_ BK139.out 0;have hfz19_1:=zf_ BK139.out 1;have hfz19_2:=zf_ BK139.out 2;have hfz19_3:=zf_ BK139.out 3;have hfz19_4:=zf_ BK139.out 4;have hfz19_5:=zf_ BK139.out 5;have hcz20_0 : w16.cell? ⟨gb132,0,none⟩ = some (.slice A0_0 l0_0.length c0_0):=(zc_ BK132.out 0).trans rfl;have hfz20_0:=zf_ BK132.out 0)|((with_reducible refine gate_callee (f:=14) rfl ?_);refine goesL_ (some 29) rfl rfl Try.func14 (by kernel_rfl) rfl #[.int .i64 ((rd_T47 l1_0 x6_1).f0),.int .i64 0,.int .i64 (wrap64 ((l0_0.length : Int) - 1))] rfl zq_ ?_;(with_reducible refine (spec_l01In.calls ((rd_T47 l1_0 x6_1).f0) 0 (wrap64 ((l0_0.length : Int) - 1)) true _ A9.out).mono ?_);rintro e w' ⟨rfl,⟨nd,rfl⟩⟩;refine ⟨_,rfl,?_⟩;have p141 : 0 ≤ (((rd_T47 l1_0 x6_1).f0) : Int):=zo_;have q141 : ((rd_T47 l1_0 x6_1).f0) < (l0_0.length : Int):=zo_;obtain ⟨ad141,A141_1,c141_1,A141_2,c141_2,e141,hx141_0,hx141_1,hx141_2,hl141_1,hi141_1,hl141_2,hi141_2⟩:=at_T51 HR0_0.out ((rd_T47 l1_0 x6_1).f0) p141 q141;cases e141;have hn141_0 : ad141.block ≠ gb139:=Nat.ne_of_lt (Nat.lt_of_lt_of_le (by have:=zb_ _ _ hx141_0;first|rwa [add_block] at this|exact this) GW139.out);have hn141_1 : ad141.block ≠ gb139:=Nat.ne_of_lt (Nat.lt_of_lt_of_le (by have:=zb_ _ _ hx141_0;first|rwa [add_block] at this|exact this) GW139.out);have hn141_2 : ad141.block ≠ gb139:=Nat.ne_of_lt (Nat.lt_of_lt_of_le (by have:=zb_ _ _ hx141_0;first|rwa [add_block] at this|exact this) GW139.out);have hn141_3 : ad141.block ≠ gb139:=Nat.ne_of_lt (Nat.lt_of_lt_of_le (by have:=zb_ _ _ hx141_0;first|rwa [add_block] at this|exact this) GW139.out);have hn141_4 : ad141.block ≠ gb139:=Nat.ne_of_lt (Nat.lt_of_lt_of_le (by have:=zb_ _ _ hx141_0;first|rwa [add_block] at this|exact this) GW139.out);have hn141_5 : ad141.block ≠ gb139:=Nat.ne_of_lt (Nat.lt_of_lt_of_le (by have:=zb_ _ _ hx141_0;first|rwa [add_block] at this|exact this) GW139.out);replace hx141_0:=(HB.out.cell (zb_ w _ hx141_0)).trans hx141_0;replace hx141_1:=(HB.out.cell (zb_ w _ hx141_1)).trans hx141_1;replace hx141_2:=(HB.out.cell (zb_ w _ hx141_2)).trans hx141_2;have HR141_1:=zm_ hi141_1;have HC141_1:=zm_ hl141_1;clear hi141_1 hl141_1;have HR141_2:=zm_ hi141_2;have HC141_2:=zm_ hl141_2;clear hi141_2 hl141_2;replace hx141_0:=(cell_far (p:=⟨gb139,0,none⟩) (by first|(rw [add_block];exact hn141_0)|(show (Addr.add _ _).block ≠ _;rw [add_block];exact hn141_0)|exact hn141_0) (.int .i64 ((rd_T47 l1_0 x6_1).f0))).trans hx141_0;replace hx141_1:=(cell_far (p:=⟨gb139,0,none⟩) (by first|(rw [add_block];exact hn141_0)|(show (Addr.add _ _).block ≠ _;rw [add_block];exact hn141_0)|exact hn141_0) (.int .i64 ((rd_T47 l1_0 x6_1).f0))).trans hx141_1;replace hx141_2:=(cell_far (p:=⟨gb139,0,none⟩) (by first|(rw [add_block];exact hn141_0)|(show (Addr.add _ _).block ≠ _;rw [add_block];exact hn141_0)|exact hn141_0) (.int .i64 ((rd_T47 l1_0 x6_1).f0))).trans hx141_2;replace hx141_0:=(cell_far (p:=⟨gb139,1,none⟩) (by first|(rw [add_block];exact hn141_1)|(show (Addr.add _ _).block ≠ _;rw [add_block];exact hn141_1)|exact hn141_1) (.int .i64 ((rd_T47 l1_0 x6_1).f1))).trans hx141_0;replace hx141_1:=(cell_far (p:=⟨gb139,1,none⟩) (by first|(rw [add_block];exact hn141_1)|(show (Addr.add _ _).block ≠ _;rw [add_block];exact hn141_1)|exact hn141_1) (.int .i64 ((rd_T47 l1_0 x6_1).f1))).trans hx141_1;replace hx141_2:=(cell_far (p:=⟨gb139,1,none⟩) (by first|(rw [add_block];exact hn141_1)|(show (Addr.add _ _).block ≠ _;rw [add_block];exact hn141_1)|exact hn141_1) (.int .i64 ((rd_T47 l1_0 x6_1).f1))).trans hx141_2;replace hx141_0:=(cell_far (p:=⟨gb139,2,none⟩) (by first|(rw [add_block];exact hn141_2)|(show (Addr.add _ _).block ≠ _;rw [add_block];exact hn141_2)|exact hn141_2) (.slice A138_2 ((rd_T47 l1_0 x6_1).f2).length c138_2)).trans hx141_0;replace hx141_1:=(cell_far (p:=⟨gb139,2,none⟩) (by first|(rw [add_block];exact hn141_2)|(show (Addr.add _ _).block ≠ _;rw [add_block];exact hn141_2)|exact hn141_2) (.slice A138_2 ((rd_T47 l1_0 x6_1).f2).length c138_2)).trans hx141_1;replace hx141_2:=(cell_far (p:=⟨gb139,2,none⟩) (by first|(rw [add_block];exact hn141_2)|(show (Addr.add _ _).block ≠ _;rw [add_block];exact hn141_2)|exact hn141_2) (.slice A138_2 ((rd_T47 l1_0 x6_1).f2).length c138_2)).trans hx141_2;replace hx141_0:=(cell_far (p:=⟨gb139,3,none⟩) (by first|(rw [add_block];exact hn141_3)|(show (Addr.add _ _).block ≠ _;rw [add_block];exact hn141_3)|exact hn141_3) (.int .i64 ((rd_T47 l1_0 x6_1).f3))).trans hx141_0;replace hx141_1:=(cell_far (p:=⟨gb139,3,none⟩) (by first|(rw [add_block];exact hn141_3)|(show (Addr.add _ _).block ≠ _;rw [add_block];exact hn141_3)|exact hn141_3) (.int .i64 ((rd_T47 l1_0 x6_1).f3))).trans hx141_1;replace hx141_2:=(cell_far (p:=⟨gb139,3,none⟩) (by first|(rw [add_block];exact hn141_3)|(show (Addr.add _ _).block ≠ _;rw [add_block];exact hn141_3)|exact hn141_3) (.int .i64 ((rd_T47 l1_0 x6_1).f3))).trans hx141_2;replace hx141_0:=(cell_far (p:=⟨gb139,4,none⟩) (by first|(rw [add_block];exact hn141_4)|(show (Addr.add _ _).block ≠ _;rw [add_block];exact hn141_4)|exact hn141_4) (.int .i64 ((rd_T47 l1_0 x6_1).f4))).trans hx141_0;replace hx141_1:=(cell_far (p:=⟨gb139,4,none⟩) (by first|(rw [add_block];exact hn141_4)|(show (Addr.add _ _).block ≠ _;rw [add_block];exact hn141_4)|exact hn141_4) (.int .i64 ((rd_T47 l1_0 x6_1).f4))).trans hx141_1;replace hx141_2:=(cell_far (p:=⟨gb139,4,none⟩) (by first|(rw [add_block];exact hn141_4)|(show (Addr.add _ _).block ≠ _;rw [add_block];exact hn141_4)|exact hn141_4) (.int .i64 ((rd_T47 l1_0 x6_1).f4))).trans hx141_2;replace hx141_0:=(cell_far (p:=⟨gb139,5,none⟩) (by first|(rw [add_block];exact hn141_5)|(show (Addr.add _ _).block ≠ _;rw [add_block];exact hn141_5)|exact hn141_5) (.slice A138_5 ((rd_T47 l1_0 x6_1).f5).length c138_5)).trans hx141_0;replace hx141_1:=(cell_far (p:=⟨gb139,5,none⟩) (by first|(rw [add_block];exact hn141_5)|(show (Addr.add _ _).block ≠ _;rw [add_block];exact hn141_5)|exact hn141_5) (.slice A138_5 ((rd_T47 l1_0 x6_1).f5).length c138_5)).trans hx141_1;replace hx141_2:=(cell_far (p:=⟨gb139,5,none⟩) (by first|(rw [add_block];exact hn141_5)|(show (Addr.add _ _).block ≠ _;rw [add_block];exact hn141_5)|exact hn141_5) (.slice A138_5 ((rd_T47 l1_0 x6_1).f5).length c138_5)).trans hx141_2;clear hn141_0;clear hn141_1;clear hn141_2;clear hn141_3;clear hn141_4;clear hn141_5;replace p141:=eq_true p141;replace q141:=eq_true q141))
         go_loopg [8,9] k1 (fun kq v8 v9 w' => ∃ (x8_2 : ByteArray) (x9_2 : Int),v8 = .string x8_2 ∧ v9 = .int .i64 x9_2 ∧ Aside0 (spec_TreeText.l1 kq x5_1 x6_1 x8_2 x9_2 l0_0 l1_0 ((rd_T47 l1_0 x6_1).f0) ((rd_T47 l1_0 x6_1).f1) ((rd_T47 l1_0 x6_1).f2) ((rd_T47 l1_0 x6_1).f3) ((rd_T47 l1_0 x6_1).f4) ((rd_T47 l1_0 x6_1).f5) = some r) ∧ Aside0 (kq ≤ k1) ∧ Aside0 (Kd.R Kd.string 9 w' w.heap.size (fun _ => True) u5 x5_1) ∧ Aside0 (w'.heap[gb132]? = some (.cells #[(.slice (some ad141) l0_0.length c0_0)] 33 (0,0))) ∧ Aside0 (w'.heap[gb133]? = some (.cells #[(.slice (some ad138) l1_0.length c1_0)] 37 (0,0))) ∧ Aside0 (w'.heap[gb139]? = some (.cells #[.int .i64 ((rd_T47 l1_0 x6_1).f0),.int .i64 ((rd_T47 l1_0 x6_1).f1),(.slice A138_2 ((rd_T47 l1_0 x6_1).f2).length c138_2),.int .i64 ((rd_T47 l1_0 x6_1).f3),.int .i64 ((rd_T47 l1_0 x6_1).f4),(.slice A138_5 ((rd_T47 l1_0 x6_1).f5).length c138_5)] 47 (0,0))) ∧ Aside0 (Below w.heap.size w w'))
         case atStart => exact ⟨(((rd_T51 l0_0 ((rd_T47 l1_0 x6_1).f0)).f0) ++ (⟨#[40]⟩ : ByteArray)),(0),zV_,zV_,H',⟨Nat.le_refl _⟩,⟨by (with_reducible repeat (first|apply Kd.R_alloc|apply Kd.R_drewN|apply Kd.R_drew));exact Kd.R_mono (Kd.R_far (p:=⟨gb139,5,none⟩) (Kd.R_far (p:=⟨gb139,4,none⟩) (Kd.R_far (p:=⟨gb139,3,none⟩) (Kd.R_far (p:=⟨gb139,2,none⟩) (Kd.R_far (p:=⟨gb139,1,none⟩) (Kd.R_far (p:=⟨gb139,0,none⟩) (Kd.R_types HO_5.out BK139.out (by decide)) (fun _ hk => hk.2) (.int .i64 ((rd_T47 l1_0 x6_1).f0))) (fun _ hk => hk.2) (.int .i64 ((rd_T47 l1_0 x6_1).f1))) (fun _ hk => hk.2) (.slice A138_2 ((rd_T47 l1_0 x6_1).f2).length c138_2)) (fun _ hk => hk.2) (.int .i64 ((rd_T47 l1_0 x6_1).f3))) (fun _ hk => hk.2) (.int .i64 ((rd_T47 l1_0 x6_1).f4))) (fun _ hk => hk.2) (.slice A138_5 ((rd_T47 l1_0 x6_1).f5).length c138_5)) (fun _ hk => trivial)⟩,⟨by (with_reducible repeat first|refine zl_ ?_ _|refine zr_ ?_|refine zk_ ?_ _);refine blk_far ?_ NB132_139.out _;(with_reducible repeat first|refine zl_ ?_ _|refine zr_ ?_|refine zk_ ?_ _);refine blk_far ?_ NB132_139.out _;(with_reducible repeat first|refine zl_ ?_ _|refine zr_ ?_|refine zk_ ?_ _);refine blk_far ?_ NB132_139.out _;(with_reducible repeat first|refine zl_ ?_ _|refine zr_ ?_|refine zk_ ?_ _);refine blk_far ?_ NB132_139.out _;(with_reducible repeat first|refine zl_ ?_ _|refine zr_ ?_|refine zk_ ?_ _);refine blk_far ?_ NB132_139.out _;(with_reducible repeat first|refine zl_ ?_ _|refine zr_ ?_|refine zk_ ?_ _);refine blk_far ?_ NB132_139.out _;(with_reducible repeat first|refine zl_ ?_ _|refine zr_ ?_|refine zk_ ?_ _);exact BK132.out⟩,⟨by (with_reducible repeat first|refine zl_ ?_ _|refine zr_ ?_|refine zk_ ?_ _);refine blk_far ?_ NB133_139.out _;(with_reducible repeat first|refine zl_ ?_ _|refine zr_ ?_|refine zk_ ?_ _);refine blk_far ?_ NB133_139.out _;(with_reducible repeat first|refine zl_ ?_ _|refine zr_ ?_|refine zk_ ?_ _);refine blk_far ?_ NB133_139.out _;(with_reducible repeat first|refine zl_ ?_ _|refine zr_ ?_|refine zk_ ?_ _);refine blk_far ?_ NB133_139.out _;(with_reducible repeat first|refine zl_ ?_ _|refine zr_ ?_|refine zk_ ?_ _);refine blk_far ?_ NB133_139.out _;(with_reducible repeat first|refine zl_ ?_ _|refine zr_ ?_|refine zk_ ?_ _);refine blk_far ?_ NB133_139.out _;(with_reducible repeat first|refine zl_ ?_ _|refine zr_ ?_|refine zk_ ?_ _);exact BK133.out⟩,⟨by (with_reducible repeat first|refine zl_ ?_ _|refine zr_ ?_|refine zk_ ?_ _);refine blk_put (cs:=#[.int .i64 ((rd_T47 l1_0 x6_1).f0),.int .i64 ((rd_T47 l1_0 x6_1).f1),.slice A138_2 ((rd_T47 l1_0 x6_1).f2).length c138_2,.int .i64 ((rd_T47 l1_0 x6_1).f3),.int .i64 ((rd_T47 l1_0 x6_1).f4),.slice none 0 0]) ?_ 5 _ rfl;(with_reducible repeat first|refine zl_ ?_ _|refine zr_ ?_|refine zk_ ?_ _);refine blk_put (cs:=#[.int .i64 ((rd_T47 l1_0 x6_1).f0),.int .i64 ((rd_T47 l1_0 x6_1).f1),.slice A138_2 ((rd_T47 l1_0 x6_1).f2).length c138_2,.int .i64 ((rd_T47 l1_0 x6_1).f3),.int .i64 0,.slice none 0 0]) ?_ 4 _ rfl;(with_reducible repeat first|refine zl_ ?_ _|refine zr_ ?_|refine zk_ ?_ _);refine blk_put (cs:=#[.int .i64 ((rd_T47 l1_0 x6_1).f0),.int .i64 ((rd_T47 l1_0 x6_1).f1),.slice A138_2 ((rd_T47 l1_0 x6_1).f2).length c138_2,.int .i64 0,.int .i64 0,.slice none 0 0]) ?_ 3 _ rfl;(with_reducible repeat first|refine zl_ ?_ _|refine zr_ ?_|refine zk_ ?_ _);refine blk_put (cs:=#[.int .i64 ((rd_T47 l1_0 x6_1).f0),.int .i64 ((rd_T47 l1_0 x6_1).f1),.slice none 0 0,.int .i64 0,.int .i64 0,.slice none 0 0]) ?_ 2 _ rfl;(with_reducible repeat first|refine zl_ ?_ _|refine zr_ ?_|refine zk_ ?_ _);refine blk_put (cs:=#[.int .i64 ((rd_T47 l1_0 x6_1).f0),.int .i64 0,.slice none 0 0,.int .i64 0,.int .i64 0,.slice none 0 0]) ?_ 1 _ rfl;(with_reducible repeat first|refine zl_ ?_ _|refine zr_ ?_|refine zk_ ?_ _);refine blk_put (cs:=#[.int .i64 0,.int .i64 0,.slice none 0 0,.int .i64 0,.int .i64 0,.slice none 0 0]) ?_ 0 _ rfl;(with_reducible repeat first|refine zl_ ?_ _|refine zr_ ?_|refine zk_ ?_ _);exact BK139.out⟩,⟨by repeat (first|(with_reducible first|exact HB.out|apply za_|apply zn_|apply zd_|refine zs_ ?_ GE132.out|refine zs_ ?_ GE133.out|refine zs_ ?_ GE139.out)|exact HB.out)⟩⟩
         case round =>
          clear H'
          try clear c1
          try clear p1
          try clear q1
          try clear hx1
          try clear p2
          try clear c6
          try clear p6
          try clear c7
          try clear c7b0
          try clear c8
          try clear c8b0
          try clear c10
          try clear c11
          try clear c11b0
          try clear c12
          try clear c12b0
          try clear c13
          try clear c13b0
          try clear c13b1
          try clear c13b2
          try clear p13
          try clear q13
          try clear hx13
          try clear c14
          try clear p14
          try clear q14
          try clear hx14
          try clear c17
          try clear c18
          try clear hcz15_0
          try clear hcz19_0
          try clear hcz19_1
          try clear hcz19_2
          try clear hcz19_3
          try clear hcz19_4
          try clear hcz19_5
          try clear hcz20_0
          try clear hfz15_0
          try clear hfz19_0
          try clear hfz19_1
          try clear hfz19_2
          try clear hfz19_3
          try clear hfz19_4
          try clear hfz19_5
          try clear hfz20_0
          try clear hx138_0
          try clear hx138_1
          try clear hx138_2
          try clear hx138_3
          try clear hx138_4
          try clear hx138_5
          try clear hx141_0
          try clear hx141_1
          try clear hx141_2
          try clear p138
          try clear p141
          try clear p2
          try clear q138
          try clear q141
          obtain ⟨x8_2,x9_2,rfl,rfl,HA,HK2,HO_5,BK132,BK133,BK139,HB⟩:=hrel
          cases gk with
          |zero => exact absurd HA.out (by simp [spec_TreeText.l1])
          |succ k2 =>
           have H:=HA.out
           clear HA
           simp only [spec_TreeText.l1] at H
           by_cases c21 : x9_2 < (((rd_T47 l1_0 x6_1).f5).length : Int)
           ·rw [if_pos c21] at H
            have c21b0 : decide (x9_2 < (((rd_T47 l1_0 x6_1).f5).length : Int)) = true:=decide_eq_true c21
            clear c21
            by_cases c22 : 0 ≤ x9_2
            ·rw [if_pos c22] at H
             have c22b0 : decide (0 ≤ x9_2) = true:=decide_eq_true c22
             clear c22
             replace H:=Option.bind_eq_some_iff.mp H
             obtain ⟨t146,A230,H⟩:=H
             replace H : (if t146 = true then (if x9_2 > 0 then (if x8_2.size + 1 ≤ 9223372036854775807 then (if 0 ≤ (rd ((rd_T47 l1_0 x6_1).f5) x9_2) then (if (rd ((rd_T47 l1_0 x6_1).f5) x9_2) < (x5_1.length : Int) then (if (x8_2 ++ (⟨#[32]⟩ : ByteArray)).size + (rdOf ByteArray.empty x5_1 (rd ((rd_T47 l1_0 x6_1).f5) x9_2)).size ≤ 9223372036854775807 then (spec_TreeText.l1 k2 x5_1 x6_1 ((x8_2 ++ (⟨#[32]⟩ : ByteArray)) ++ (rdOf ByteArray.empty x5_1 (rd ((rd_T47 l1_0 x6_1).f5) x9_2))) (wrap64 (x9_2 + 1)) l0_0 l1_0 ((rd_T47 l1_0 x6_1).f0) ((rd_T47 l1_0 x6_1).f1) ((rd_T47 l1_0 x6_1).f2) ((rd_T47 l1_0 x6_1).f3) ((rd_T47 l1_0 x6_1).f4) ((rd_T47 l1_0 x6_1).f5)) else (none)) else (none)) else (none)) else (none)) else (if 0 ≤ (rd ((rd_T47 l1_0 x6_1).f5) x9_2) then (if (rd ((rd_T47 l1_0 x6_1).f5) x9_2) < (x5_1.length : Int) then (if x8_2.size + (rdOf ByteArray.empty x5_1 (rd ((rd_T47 l1_0 x6_1).f5) x9_2)).size ≤ 9223372036854775807 then (spec_TreeText.l1 k2 x5_1 x6_1 (x8_2 ++ (rdOf ByteArray.empty x5_1 (rd ((rd_T47 l1_0 x6_1).f5) x9_2))) (wrap64 (x9_2 + 1)) l0_0 l1_0 ((rd_T47 l1_0 x6_1).f0) ((rd_T47 l1_0 x6_1).f1) ((rd_T47 l1_0 x6_1).f2) ((rd_T47 l1_0 x6_1).f3) ((rd_T47 l1_0 x6_1).f4) ((rd_T47 l1_0 x6_1).f5)) else (none)) else (none)) else (none))) else (some (⟨#[]⟩ : ByteArray))) = some r:=H
             have A23:=zm_ A230
             clear A230
             by_cases c24 : t146 = true
             ·subst c24
              have H1 : (if x9_2 > 0 then (if x8_2.size + 1 ≤ 9223372036854775807 then (if 0 ≤ (rd ((rd_T47 l1_0 x6_1).f5) x9_2) then (if (rd ((rd_T47 l1_0 x6_1).f5) x9_2) < (x5_1.length : Int) then (if (x8_2 ++ (⟨#[32]⟩ : ByteArray)).size + (rdOf ByteArray.empty x5_1 (rd ((rd_T47 l1_0 x6_1).f5) x9_2)).size ≤ 9223372036854775807 then (spec_TreeText.l1 k2 x5_1 x6_1 ((x8_2 ++ (⟨#[32]⟩ : ByteArray)) ++ (rdOf ByteArray.empty x5_1 (rd ((rd_T47 l1_0 x6_1).f5) x9_2))) (wrap64 (x9_2 + 1)) l0_0 l1_0 ((rd_T47 l1_0 x6_1).f0) ((rd_T47 l1_0 x6_1).f1) ((rd_T47 l1_0 x6_1).f2) ((rd_T47 l1_0 x6_1).f3) ((rd_T47 l1_0 x6_1).f4) ((rd_T47 l1_0 x6_1).f5)) else (none)) else (none)) else (none)) else (none)) else (if 0 ≤ (rd ((rd_T47 l1_0 x6_1).f5) x9_2) then (if (rd ((rd_T47 l1_0 x6_1).f5) x9_2) < (x5_1.length : Int) then (if x8_2.size + (rdOf ByteArray.empty x5_1 (rd ((rd_T47 l1_0 x6_1).f5) x9_2)).size ≤ 9223372036854775807 then (spec_TreeText.l1 k2 x5_1 x6_1 (x8_2 ++ (rdOf ByteArray.empty x5_1 (rd ((rd_T47 l1_0 x6_1).f5) x9_2))) (wrap64 (x9_2 + 1)) l0_0 l1_0 ((rd_T47 l1_0 x6_1).f0) ((rd_T47 l1_0 x6_1).f1) ((rd_T47 l1_0 x6_1).f2) ((rd_T47 l1_0 x6_1).f3) ((rd_T47 l1_0 x6_1).f4) ((rd_T47 l1_0 x6_1).f5)) else (none)) else (none)) else (none))) = some r:=by rw [if_pos rfl] at H;exact H
              clear H
              have H:=H1
              clear H1
              by_cases c25 : x9_2 > 0
              ·rw [if_pos c25] at H
               have c25b0 : decide (0 < x9_2) = true:=decide_eq_true c25
               clear c25
               by_cases c26 : x8_2.size + 1 ≤ 9223372036854775807
               ·rw [if_pos c26] at H
                have c26b0:=eq_true c26
                have c26b1 : decide (x8_2.size + 1 ≤ 9223372036854775807) = true:=decide_eq_true c26
                try have c26b2 : (9223372036854775807 < x8_2.size + 1) = False:=eq_false (Nat.not_lt.2 c26)
                by_cases c27 : 0 ≤ (rd ((rd_T47 l1_0 x6_1).f5) x9_2)
                ·rw [if_pos c27] at H
                 have c27b0 : decide (0 ≤ (rd ((rd_T47 l1_0 x6_1).f5) x9_2)) = true:=decide_eq_true c27
                 clear c27
                 by_cases c28 : (rd ((rd_T47 l1_0 x6_1).f5) x9_2) < (x5_1.length : Int)
                 ·rw [if_pos c28] at H
                  have c28b0 : decide ((rd ((rd_T47 l1_0 x6_1).f5) x9_2) < (x5_1.length : Int)) = true:=decide_eq_true c28
                  clear c28
                  by_cases c29 : (x8_2 ++ (⟨#[32]⟩ : ByteArray)).size + (rdOf ByteArray.empty x5_1 (rd ((rd_T47 l1_0 x6_1).f5) x9_2)).size ≤ 9223372036854775807
                  ·rw [if_pos c29] at H
                   have c29b0:=eq_true c29
                   have c29b1 : decide ((x8_2 ++ (⟨#[32]⟩ : ByteArray)).size + (rdOf ByteArray.empty x5_1 (rd ((rd_T47 l1_0 x6_1).f5) x9_2)).size ≤ 9223372036854775807) = true:=decide_eq_true c29
                   try have c29b2 : (9223372036854775807 < (x8_2 ++ (⟨#[32]⟩ : ByteArray)).size + (rdOf ByteArray.empty x5_1 (rd ((rd_T47 l1_0 x6_1).f5) x9_2)).size) = False:=eq_false (Nat.not_lt.2 c29)
                   try have c29b3 : (9223372036854775807 < x8_2.size + 1 + (rdOf ByteArray.empty x5_1 (rd ((rd_T47 l1_0 x6_1).f5) x9_2)).size) = False:=eq_false (Nat.not_lt.2 (by have h_:=c29;simp only [ByteArray.size_append] at h_;exact h_))
                   have H':=zm_ H
                   clear H
                   have hnb30:=NB139_132.out
                   have hnc30:=NB132_139.out
                   have hnb31:=NB139_133.out
                   have hnc31:=NB133_139.out
                   have hcz32_0 : wr.cell? ⟨gb139,0,none⟩ = some (.int .i64 ((rd_T47 l1_0 x6_1).f0)):=(zc_ BK139.out 0).trans rfl
                   have hcz32_1 : wr.cell? ⟨gb139,1,none⟩ = some (.int .i64 ((rd_T47 l1_0 x6_1).f1)):=(zc_ BK139.out 1).trans rfl
                   have hcz32_2 : wr.cell? ⟨gb139,2,none⟩ = some (.slice A138_2 ((rd_T47 l1_0 x6_1).f2).length c138_2):=(zc_ BK139.out 2).trans rfl
                   have hcz32_3 : wr.cell? ⟨gb139,3,none⟩ = some (.int .i64 ((rd_T47 l1_0 x6_1).f3)):=(zc_ BK139.out 3).trans rfl
                   have hcz32_4 : wr.cell? ⟨gb139,4,none⟩ = some (.int .i64 ((rd_T47 l1_0 x6_1).f4)):=(zc_ BK139.out 4).trans rfl
                   have hcz32_5 : wr.cell? ⟨gb139,5,none⟩ = some (.slice A138_5 ((rd_T47 l1_0 x6_1).f5).length c138_5):=(zc_ BK139.out 5).trans rfl
                   have hfz32_0:=zf_ BK139.out 0
                   have hfz32_1:=zf_ BK139.out 1
                   have hfz32_2:=zf_ BK139.out 2
                   have hfz32_3:=zf_ BK139.out 3
                   have hfz32_4:=zf_ BK139.out 4
                   have hfz32_5:=zf_ BK139.out 5
                   have p145 : 0 ≤ (x9_2 : Int):=zo_
                   have q145 : x9_2 < (((rd_T47 l1_0 x6_1).f5).length : Int):=zo_
                   obtain ⟨ad145,e145,hx145_0⟩:=Kd.at_int HR138_5.out x9_2 p145 q145
                   cases e145
                   replace hx145_0:=(HB.out.cell (zb_ w _ hx145_0)).trans hx145_0
                   replace p145:=eq_true p145
                   replace q145:=eq_true q145
                   go_wp2_with (first|((with_reducible refine gate_callee (f:=14) rfl ?_);refine goesL_ (some 53) rfl rfl Try.func14 (by kernel_rfl) rfl #[.int .i64 (rd ((rd_T47 l1_0 x6_1).f5) x9_2),.int .i64 0,.int .i64 (wrap64 (x6_1 - 1))] rfl zq_ ?_;(with_reducible refine (spec_l01In.calls (rd ((rd_T47 l1_0 x6_1).f5) x9_2) 0 (wrap64 (x6_1 - 1)) true _ A23.out).mono ?_);rintro e w' ⟨rfl,⟨nd,rfl⟩⟩;refine ⟨_,rfl,?_⟩;have p147 : 0 ≤ (x9_2 : Int):=zo_;have q147 : x9_2 < (((rd_T47 l1_0 x6_1).f5).length : Int):=zo_;obtain ⟨ad147,e147,hx147_0⟩:=Kd.at_int HR138_5.out x9_2 p147 q147;obtain rfl : ad145 = ad147:=(by injection e147);replace hx147_0:=(HB.out.cell (zb_ w _ hx147_0)).trans hx147_0;replace p147:=eq_true p147;replace q147:=eq_true q147;obtain ⟨Ao33,co33,eo33⟩:=Kd.R_slice HO_5.out;subst eo33;have p148 : 0 ≤ ((rd ((rd_T47 l1_0 x6_1).f5) x9_2) : Int):=zo_;have q148 : (rd ((rd_T47 l1_0 x6_1).f5) x9_2) < (x5_1.length : Int):=zo_;obtain ⟨ad148,e148,hx148_0⟩:=Kd.at_string (Kd.R_reads' HO_5.out).2.2 (rd ((rd_T47 l1_0 x6_1).f5) x9_2) p148 q148;cases e148;replace p148:=eq_true p148;replace q148:=eq_true q148))
                   go_roundg k2
                   case measure => have:=HK1.out;have:=HK2.out;omega
                   case rel => exact ⟨((x8_2 ++ (⟨#[32]⟩ : ByteArray)) ++ (rdOf ByteArray.empty x5_1 (rd ((rd_T47 l1_0 x6_1).f5) x9_2))),(wrap64 (x9_2 + 1)),zV_,zV_,H',⟨by have:=HK1.out;have:=HK2.out;omega⟩,⟨by (with_reducible repeat (first|apply Kd.R_alloc|apply Kd.R_drewN|apply Kd.R_drew));exact HO_5.out⟩,⟨by (with_reducible repeat first|refine zl_ ?_ _|refine zr_ ?_|refine zk_ ?_ _);exact BK132.out⟩,⟨by (with_reducible repeat first|refine zl_ ?_ _|refine zr_ ?_|refine zk_ ?_ _);exact BK133.out⟩,⟨by (with_reducible repeat first|refine zl_ ?_ _|refine zr_ ?_|refine zk_ ?_ _);exact BK139.out⟩,⟨by repeat (first|(with_reducible first|exact HB.out|apply za_|apply zn_|apply zd_|refine zs_ ?_ GE132.out|refine zs_ ?_ GE133.out|refine zs_ ?_ GE139.out)|exact HB.out)⟩⟩
                  ·rw [if_neg c29] at H
                   exact absurd H (by simp)
                 ·rw [if_neg c28] at H
                  exact absurd H (by simp)
                ·rw [if_neg c27] at H
                 exact absurd H (by simp)
               ·rw [if_neg c26] at H
                exact absurd H (by simp)
              ·rw [if_neg c25] at H
               have c25b0 : decide (0 < x9_2) = false:=decide_eq_false c25
               clear c25
               by_cases c34 : 0 ≤ (rd ((rd_T47 l1_0 x6_1).f5) x9_2)
               ·rw [if_pos c34] at H
                have c34b0 : decide (0 ≤ (rd ((rd_T47 l1_0 x6_1).f5) x9_2)) = true:=decide_eq_true c34
                clear c34
                by_cases c35 : (rd ((rd_T47 l1_0 x6_1).f5) x9_2) < (x5_1.length : Int)
                ·rw [if_pos c35] at H
                 have c35b0 : decide ((rd ((rd_T47 l1_0 x6_1).f5) x9_2) < (x5_1.length : Int)) = true:=decide_eq_true c35
                 clear c35
                 by_cases c36 : x8_2.size + (rdOf ByteArray.empty x5_1 (rd ((rd_T47 l1_0 x6_1).f5) x9_2)).size ≤ 9223372036854775807
                 ·rw [if_pos c36] at H
                  have c36b0:=eq_true c36
                  have c36b1 : decide (x8_2.size + (rdOf ByteArray.empty x5_1 (rd ((rd_T47 l1_0 x6_1).f5) x9_2)).size ≤ 9223372036854775807) = true:=decide_eq_true c36
                  try have c36b2 : (9223372036854775807 < x8_2.size + (rdOf ByteArray.empty x5_1 (rd ((rd_T47 l1_0 x6_1).f5) x9_2)).size) = False:=eq_false (Nat.not_lt.2 c36)
                  have H':=zm_ H
                  clear H
                  have hnb37:=NB139_132.out
                  have hnc37:=NB132_139.out
                  have hnb38:=NB139_133.out
                  have hnc38:=NB133_139.out
                  have hcz39_0 : wr.cell? ⟨gb139,0,none⟩ = some (.int .i64 ((rd_T47 l1_0 x6_1).f0)):=(zc_ BK139.out 0).trans rfl
                  have hcz39_1 : wr.cell? ⟨gb139,1,none⟩ = some (.int .i64 ((rd_T47 l1_0 x6_1).f1)):=(zc_ BK139.out 1).trans rfl
                  have hcz39_2 : wr.cell? ⟨gb139,2,none⟩ = some (.slice A138_2 ((rd_T47 l1_0 x6_1).f2).length c138_2):=(zc_ BK139.out 2).trans rfl
                  have hcz39_3 : wr.cell? ⟨gb139,3,none⟩ = some (.int .i64 ((rd_T47 l1_0 x6_1).f3)):=(zc_ BK139.out 3).trans rfl
                  have hcz39_4 : wr.cell? ⟨gb139,4,none⟩ = some (.int .i64 ((rd_T47 l1_0 x6_1).f4)):=(zc_ BK139.out 4).trans rfl
                  have hcz39_5 : wr.cell? ⟨gb139,5,none⟩ = some (.slice A138_5 ((rd_T47 l1_0 x6_1).f5).length c138_5):=(zc_ BK139.out 5).trans rfl
                  have hfz39_0:=zf_ BK139.out 0
                  have hfz39_1:=zf_ BK139.out 1
                  have hfz39_2:=zf_ BK139.out 2
                  have hfz39_3:=zf_ BK139.out 3
                  have hfz39_4:=zf_ BK139.out 4
                  have hfz39_5:=zf_ BK139.out 5
                  have p145 : 0 ≤ (x9_2 : Int):=zo_
                  have q145 : x9_2 < (((rd_T47 l1_0 x6_1).f5).length : Int):=zo_
                  obtain ⟨ad145,e145,hx145_0⟩:=Kd.at_int HR138_5.out x9_2 p145 q145
                  cases e145
                  replace hx145_0:=(HB.out.cell (zb_ w _ hx145_0)).trans hx145_0
                  replace p145:=eq_true p145
                  replace q145:=eq_true q145
                  go_wp2_with (first|((with_reducible refine gate_callee (f:=14) rfl ?_);refine goesL_ (some 53) rfl rfl Try.func14 (by kernel_rfl) rfl #[.int .i64 (rd ((rd_T47 l1_0 x6_1).f5) x9_2),.int .i64 0,.int .i64 (wrap64 (x6_1 - 1))] rfl zq_ ?_;(with_reducible refine (spec_l01In.calls (rd ((rd_T47 l1_0 x6_1).f5) x9_2) 0 (wrap64 (x6_1 - 1)) true _ A23.out).mono ?_);rintro e w' ⟨rfl,⟨nd,rfl⟩⟩;refine ⟨_,rfl,?_⟩;have p149 : 0 ≤ (x9_2 : Int):=zo_;have q149 : x9_2 < (((rd_T47 l1_0 x6_1).f5).length : Int):=zo_;obtain ⟨ad149,e149,hx149_0⟩:=Kd.at_int HR138_5.out x9_2 p149 q149;obtain rfl : ad145 = ad149:=(by injection e149);replace hx149_0:=(HB.out.cell (zb_ w _ hx149_0)).trans hx149_0;replace p149:=eq_true p149;replace q149:=eq_true q149;obtain ⟨Ao40,co40,eo40⟩:=Kd.R_slice HO_5.out;subst eo40;have p150 : 0 ≤ ((rd ((rd_T47 l1_0 x6_1).f5) x9_2) : Int):=zo_;have q150 : (rd ((rd_T47 l1_0 x6_1).f5) x9_2) < (x5_1.length : Int):=zo_;obtain ⟨ad150,e150,hx150_0⟩:=Kd.at_string (Kd.R_reads' HO_5.out).2.2 (rd ((rd_T47 l1_0 x6_1).f5) x9_2) p150 q150;cases e150;replace p150:=eq_true p150;replace q150:=eq_true q150))
                  go_roundg k2
                  case measure => have:=HK1.out;have:=HK2.out;omega
                  case rel => exact ⟨(x8_2 ++ (rdOf ByteArray.empty x5_1 (rd ((rd_T47 l1_0 x6_1).f5) x9_2))),(wrap64 (x9_2 + 1)),zV_,zV_,H',⟨by have:=HK1.out;have:=HK2.out;omega⟩,⟨by (with_reducible repeat (first|apply Kd.R_alloc|apply Kd.R_drewN|apply Kd.R_drew));exact HO_5.out⟩,⟨by (with_reducible repeat first|refine zl_ ?_ _|refine zr_ ?_|refine zk_ ?_ _);exact BK132.out⟩,⟨by (with_reducible repeat first|refine zl_ ?_ _|refine zr_ ?_|refine zk_ ?_ _);exact BK133.out⟩,⟨by (with_reducible repeat first|refine zl_ ?_ _|refine zr_ ?_|refine zk_ ?_ _);exact BK139.out⟩,⟨by repeat (first|(with_reducible first|exact HB.out|apply za_|apply zn_|apply zd_|refine zs_ ?_ GE132.out|refine zs_ ?_ GE133.out|refine zs_ ?_ GE139.out)|exact HB.out)⟩⟩
                 ·rw [if_neg c36] at H
                  exact absurd H (by simp)
                ·rw [if_neg c35] at H
                 exact absurd H (by simp)
               ·rw [if_neg c34] at H
                exact absurd H (by simp)
             ·replace c24:=Bool.eq_false_iff.mpr c24
              subst c24
              have H1 : (some (⟨#[]⟩ : ByteArray)) = some r:=by rw [if_neg (show ¬ (false = true) by decide)] at H;exact H
              clear H
              have H:=H1
              clear H1
              obtain rfl:=Option.some.inj H
              have hnb41:=NB139_132.out
              have hnc41:=NB132_139.out
              have hnb42:=NB139_133.out
              have hnc42:=NB133_139.out
              have hcz43_0 : wr.cell? ⟨gb139,0,none⟩ = some (.int .i64 ((rd_T47 l1_0 x6_1).f0)):=(zc_ BK139.out 0).trans rfl
              have hcz43_1 : wr.cell? ⟨gb139,1,none⟩ = some (.int .i64 ((rd_T47 l1_0 x6_1).f1)):=(zc_ BK139.out 1).trans rfl
              have hcz43_2 : wr.cell? ⟨gb139,2,none⟩ = some (.slice A138_2 ((rd_T47 l1_0 x6_1).f2).length c138_2):=(zc_ BK139.out 2).trans rfl
              have hcz43_3 : wr.cell? ⟨gb139,3,none⟩ = some (.int .i64 ((rd_T47 l1_0 x6_1).f3)):=(zc_ BK139.out 3).trans rfl
              have hcz43_4 : wr.cell? ⟨gb139,4,none⟩ = some (.int .i64 ((rd_T47 l1_0 x6_1).f4)):=(zc_ BK139.out 4).trans rfl
              have hcz43_5 : wr.cell? ⟨gb139,5,none⟩ = some (.slice A138_5 ((rd_T47 l1_0 x6_1).f5).length c138_5):=(zc_ BK139.out 5).trans rfl
              have hfz43_0:=zf_ BK139.out 0
              have hfz43_1:=zf_ BK139.out 1
              have hfz43_2:=zf_ BK139.out 2
              have hfz43_3:=zf_ BK139.out 3
              have hfz43_4:=zf_ BK139.out 4
              have hfz43_5:=zf_ BK139.out 5
              have p145 : 0 ≤ (x9_2 : Int):=zo_
              have q145 : x9_2 < (((rd_T47 l1_0 x6_1).f5).length : Int):=zo_
              obtain ⟨ad145,e145,hx145_0⟩:=Kd.at_int HR138_5.out x9_2 p145 q145
              cases e145
              replace hx145_0:=(HB.out.cell (zb_ w _ hx145_0)).trans hx145_0
              replace p145:=eq_true p145
              replace q145:=eq_true q145
              go_wp2_with (first|((with_reducible refine gate_callee (f:=14) rfl ?_);refine goesL_ (some 53) rfl rfl Try.func14 (by kernel_rfl) rfl #[.int .i64 (rd ((rd_T47 l1_0 x6_1).f5) x9_2),.int .i64 0,.int .i64 (wrap64 (x6_1 - 1))] rfl zq_ ?_;(with_reducible refine (spec_l01In.calls (rd ((rd_T47 l1_0 x6_1).f5) x9_2) 0 (wrap64 (x6_1 - 1)) false _ A23.out).mono ?_);rintro e w' ⟨rfl,⟨nd,rfl⟩⟩;refine ⟨_,rfl,?_⟩))
              go_ret
              exact ⟨zE_,by repeat (first|(with_reducible first|exact HB.out|apply za_|apply zn_|apply zd_|refine zs_ ?_ GE132.out|refine zs_ ?_ GE133.out|refine zs_ ?_ GE139.out)|exact HB.out)⟩
            ·rw [if_neg c22] at H
             exact absurd H (by simp)
           ·rw [if_neg c21] at H
            have c21b0 : decide (x9_2 < (((rd_T47 l1_0 x6_1).f5).length : Int)) = false:=decide_eq_false c21
            clear c21
            by_cases c44 : x8_2.size + 1 ≤ 9223372036854775807
            ·rw [if_pos c44] at H
             have c44b0:=eq_true c44
             have c44b1 : decide (x8_2.size + 1 ≤ 9223372036854775807) = true:=decide_eq_true c44
             try have c44b2 : (9223372036854775807 < x8_2.size + 1) = False:=eq_false (Nat.not_lt.2 c44)
             by_cases c45 : ((x8_2 ++ (⟨#[41]⟩ : ByteArray)).size : Int) > 2000
             ·rw [if_pos c45] at H
              have c45b0 : decide (2000 < ((x8_2 ++ (⟨#[41]⟩ : ByteArray)).size : Int)) = true:=decide_eq_true c45
              have c45b6 : decide (2000 < ((x8_2.size : Int) + 1)) = true:=decide_eq_true (by have h_:=of_decide_eq_true c45b0;simp only [ByteArray.size_append] at h_;have z0_ : (⟨#[41]⟩ : ByteArray).size = 1:=rfl;omega)
              have c45b1 : decide (2000 < (x8_2 ++ (⟨#[41]⟩ : ByteArray)).size) = true:=decide_eq_true (by omega)
              clear c45
              obtain rfl:=Option.some.inj H
              have hnb46:=NB139_132.out
              have hnc46:=NB132_139.out
              have hnb47:=NB139_133.out
              have hnc47:=NB133_139.out
              have hcz48_0 : wr.cell? ⟨gb139,0,none⟩ = some (.int .i64 ((rd_T47 l1_0 x6_1).f0)):=(zc_ BK139.out 0).trans rfl
              have hcz48_1 : wr.cell? ⟨gb139,1,none⟩ = some (.int .i64 ((rd_T47 l1_0 x6_1).f1)):=(zc_ BK139.out 1).trans rfl
              have hcz48_2 : wr.cell? ⟨gb139,2,none⟩ = some (.slice A138_2 ((rd_T47 l1_0 x6_1).f2).length c138_2):=(zc_ BK139.out 2).trans rfl
              have hcz48_3 : wr.cell? ⟨gb139,3,none⟩ = some (.int .i64 ((rd_T47 l1_0 x6_1).f3)):=(zc_ BK139.out 3).trans rfl
              have hcz48_4 : wr.cell? ⟨gb139,4,none⟩ = some (.int .i64 ((rd_T47 l1_0 x6_1).f4)):=(zc_ BK139.out 4).trans rfl
              have hcz48_5 : wr.cell? ⟨gb139,5,none⟩ = some (.slice A138_5 ((rd_T47 l1_0 x6_1).f5).length c138_5):=(zc_ BK139.out 5).trans rfl
              have hfz48_0:=zf_ BK139.out 0
              have hfz48_1:=zf_ BK139.out 1
              have hfz48_2:=zf_ BK139.out 2
              have hfz48_3:=zf_ BK139.out 3
              have hfz48_4:=zf_ BK139.out 4
              have hfz48_5:=zf_ BK139.out 5
              go_wp2
              go_ret
              exact ⟨zE_,by repeat (first|(with_reducible first|exact HB.out|apply za_|apply zn_|apply zd_|refine zs_ ?_ GE132.out|refine zs_ ?_ GE133.out|refine zs_ ?_ GE139.out)|exact HB.out)⟩
             ·rw [if_neg c45] at H
              have c45b0 : decide (2000 < ((x8_2 ++ (⟨#[41]⟩ : ByteArray)).size : Int)) = false:=decide_eq_false c45
              have c45b6 : decide (2000 < ((x8_2.size : Int) + 1)) = false:=decide_eq_false (by have h_:=of_decide_eq_false c45b0;simp only [ByteArray.size_append] at h_;have z0_ : (⟨#[41]⟩ : ByteArray).size = 1:=rfl;omega)
              have c45b1 : decide (2000 < (x8_2 ++ (⟨#[41]⟩ : ByteArray)).size) = false:=decide_eq_false (by omega)
              clear c45
              by_cases c49 : x5_1.length < 8796093022208
              ·rw [if_pos c49] at H
               have LMc49:=zm_ c49
               clear c49
               obtain ⟨y142,hy142⟩ : ∃ y_ : List ByteArray,y_ = (x5_1 ++ [x8_2 ++ (⟨#[41]⟩ : ByteArray)]):=⟨_,rfl⟩
               replace H : (spec_TreeText.l0 k2 y142 (wrap64 (x6_1 + 1)) l0_0 l1_0) = some r:=by first|(rw [hy142];with_reducible exact H)|(have H2_:=(Option.bind_some _ _).symm.trans H;rw [hy142];with_reducible exact H2_)|(have H2_:=(Option.bind_some _ _).symm.trans H;with_reducible exact H2_)|with_reducible exact H|(rw [hy142];exact H)|exact H
               have Ny142:=zm_ hy142
               clear hy142
               have H':=zm_ H
               clear H
               have hnb50:=NB139_132.out
               have hnc50:=NB132_139.out
               have hnb51:=NB139_133.out
               have hnc51:=NB133_139.out
               have hcz52_0 : wr.cell? ⟨gb139,0,none⟩ = some (.int .i64 ((rd_T47 l1_0 x6_1).f0)):=(zc_ BK139.out 0).trans rfl
               have hcz52_1 : wr.cell? ⟨gb139,1,none⟩ = some (.int .i64 ((rd_T47 l1_0 x6_1).f1)):=(zc_ BK139.out 1).trans rfl
               have hcz52_2 : wr.cell? ⟨gb139,2,none⟩ = some (.slice A138_2 ((rd_T47 l1_0 x6_1).f2).length c138_2):=(zc_ BK139.out 2).trans rfl
               have hcz52_3 : wr.cell? ⟨gb139,3,none⟩ = some (.int .i64 ((rd_T47 l1_0 x6_1).f3)):=(zc_ BK139.out 3).trans rfl
               have hcz52_4 : wr.cell? ⟨gb139,4,none⟩ = some (.int .i64 ((rd_T47 l1_0 x6_1).f4)):=(zc_ BK139.out 4).trans rfl
               have hcz52_5 : wr.cell? ⟨gb139,5,none⟩ = some (.slice A138_5 ((rd_T47 l1_0 x6_1).f5).length c138_5):=(zc_ BK139.out 5).trans rfl
               have hfz52_0:=zf_ BK139.out 0
               have hfz52_1:=zf_ BK139.out 1
               have hfz52_2:=zf_ BK139.out 2
               have hfz52_3:=zf_ BK139.out 3
               have hfz52_4:=zf_ BK139.out 4
               have hfz52_5:=zf_ BK139.out 5
               go_wp2_with (first|((with_reducible refine gate_builtin (b:=.append) (xs:=#[.tmp 74,.tmp 76]) rfl ?_);at_builtin;refine Kd.R_append Kd.string (w0:=w) w.heap.size rfl (.tmp 74) (.tmp 76) 44 9 (.string ⟨#[]⟩) 16 rfl Try.underlying44 info9 rfl (by decide) (by omega) u5 x5_1 (x8_2 ++ (⟨#[41]⟩ : ByteArray)) [.string (x8_2 ++ (⟨#[41]⟩ : ByteArray))] (fun _ => True) (fun _ => False) rfl rfl ?aP (fun _ hk => hk.elim) ?aF ?aO ?aB ?aS ?aL ?_;(case aP => exact rfl);(case aB => exact (by repeat (first|(with_reducible first|exact HB.out|apply za_|apply zn_|apply zd_|refine zs_ ?_ GE132.out|refine zs_ ?_ GE133.out|refine zs_ ?_ GE139.out)|exact HB.out)));(case aF => exact (fun _ _ => trivial));(case aO => exact (by (with_reducible repeat (first|apply Kd.R_alloc|apply Kd.R_drewN|apply Kd.R_drew));exact HO_5.out));(case aS => exact (below_size (by repeat (first|(with_reducible first|exact HB.out|apply za_|apply zn_|apply zd_|refine zs_ ?_ GE132.out|refine zs_ ?_ GE133.out|refine zs_ ?_ GE139.out)|exact HB.out))));(case aL => have:=LMc49.out;omega);intro v143 w53 ho hb hg hat;rw [← Ny142.out] at ho;have n0_:=zm_ (blk_grown (g:=gb132) (o:=.cells #[.slice (some ad141) l0_0.length c0_0] 33 (0,0)) (by (with_reducible repeat first|refine zl_ ?_ _|refine zr_ ?_|refine zk_ ?_ _);exact BK132.out) hg (Kd.R_ne HO_5.out BK132.out (by decide)));have n1_:=zm_ (blk_grown (g:=gb133) (o:=.cells #[.slice (some ad138) l1_0.length c1_0] 37 (0,0)) (by (with_reducible repeat first|refine zl_ ?_ _|refine zr_ ?_|refine zk_ ?_ _);exact BK133.out) hg (Kd.R_ne HO_5.out BK133.out (by decide)));have n2_:=zm_ (blk_grown (g:=gb139) (o:=.cells #[.int .i64 ((rd_T47 l1_0 x6_1).f0),.int .i64 ((rd_T47 l1_0 x6_1).f1),.slice A138_2 ((rd_T47 l1_0 x6_1).f2).length c138_2,.int .i64 ((rd_T47 l1_0 x6_1).f3),.int .i64 ((rd_T47 l1_0 x6_1).f4),.slice A138_5 ((rd_T47 l1_0 x6_1).f5).length c138_5] 47 (0,0)) (by (with_reducible repeat first|refine zl_ ?_ _|refine zr_ ?_|refine zk_ ?_ _);exact BK139.out) hg (Kd.R_ne HO_5.out BK139.out (by decide)));have n3_:=zm_ (hb);have n4_:=zm_ (ho);clear BK132;clear BK133;clear BK139;clear HB;clear HO_5;have BK132:=n0_;have BK133:=n1_;have BK139:=n2_;have HB:=n3_;have HO144:=n4_;clear n0_ n1_ n2_ n3_ n4_;clear ho hb hg hat))
               go_roundg k2
               case measure => have:=HK1.out;have:=HK2.out;omega
               case rel => exact ⟨(y142),(wrap64 (x6_1 + 1)),zV_,H',⟨by have:=HK1.out;have:=HK2.out;omega⟩,⟨by (with_reducible repeat (first|apply Kd.R_alloc|apply Kd.R_drewN|apply Kd.R_drew));exact HO144.out⟩,⟨by (with_reducible repeat first|refine zl_ ?_ _|refine zr_ ?_|refine zk_ ?_ _);exact BK132.out⟩,⟨by (with_reducible repeat first|refine zl_ ?_ _|refine zr_ ?_|refine zk_ ?_ _);exact BK133.out⟩,⟨by repeat (first|(with_reducible first|exact HB.out|apply za_|apply zn_|apply zd_|refine zs_ ?_ GE132.out|refine zs_ ?_ GE133.out|refine zs_ ?_ GE139.out)|exact HB.out)⟩⟩
              ·rw [if_neg c49] at H
               exact absurd H (by simp)
            ·rw [if_neg c44] at H
             exact absurd H (by simp)
        ·rw [if_neg c13] at H
         exact absurd H (by simp)
       ·rw [if_neg c12] at H
        exact absurd H (by simp)
      ·rw [if_neg c11] at H
       exact absurd H (by simp)
     ·replace c10:=Bool.eq_false_iff.mpr c10
      subst c10
      have H1 : (some (⟨#[]⟩ : ByteArray)) = some r:=by rw [if_neg (show ¬ (false = true) by decide)] at H;exact H
      clear H
      have H:=H1
      clear H1
      obtain rfl:=Option.some.inj H
      have hnb54:=NB133_132.out
      have hnc54:=NB132_133.out
      have hcz55_0 : wr.cell? ⟨gb133,0,none⟩ = some (.slice A1_0 l1_0.length c1_0):=(zc_ BK133.out 0).trans rfl
      have hfz55_0:=zf_ BK133.out 0
      have p138 : 0 ≤ (x6_1 : Int):=zo_
      have q138 : x6_1 < (l1_0.length : Int):=zo_
      obtain ⟨ad138,A138_2,c138_2,A138_5,c138_5,e138,hx138_0,hx138_1,hx138_2,hx138_3,hx138_4,hx138_5,hl138_2,hi138_2,hl138_5,hi138_5⟩:=at_T47 HR1_0.out x6_1 p138 q138
      cases e138
      replace hx138_0:=(HB.out.cell (zb_ w _ hx138_0)).trans hx138_0
      replace hx138_1:=(HB.out.cell (zb_ w _ hx138_1)).trans hx138_1
      replace hx138_2:=(HB.out.cell (zb_ w _ hx138_2)).trans hx138_2
      replace hx138_3:=(HB.out.cell (zb_ w _ hx138_3)).trans hx138_3
      replace hx138_4:=(HB.out.cell (zb_ w _ hx138_4)).trans hx138_4
      replace hx138_5:=(HB.out.cell (zb_ w _ hx138_5)).trans hx138_5
      have HR138_2:=zm_ hi138_2
      have HC138_2:=zm_ hl138_2
      clear hi138_2 hl138_2
      have HR138_5:=zm_ hi138_5
      have HC138_5:=zm_ hl138_5
      clear hi138_5 hl138_5
      replace p138:=eq_true p138
      replace q138:=eq_true q138
      go_wp2_with (first|((with_reducible refine gate_dst (N:=7) rfl ?_);refine box_event ?hg (N:=7) ?hd (cs:=#[.int .i64 0,.int .i64 0,.slice none 0 0,.int .i64 0,.int .i64 0,.slice none 0 0]) (t:=47) ?hr ?_;(case hd => rfl);(case hg => rfl);(case hr => first|(go_simp;done)|(go_simp;rfl));intro gb139 hg w56 hbox hb;have n0_:=zm_ (Kd.R_below (by (with_reducible repeat (first|apply Kd.R_alloc|apply Kd.R_drewN|apply Kd.R_drew));exact HO_5.out) hb);have n1_:=zm_ (blk_below (g:=gb132) (o:=.cells #[.slice A0_0 l0_0.length c0_0] 33 (0,0)) (by (with_reducible repeat first|refine zl_ ?_ _|refine zr_ ?_|refine zk_ ?_ _);exact BK132.out) hb);have n2_:=zm_ (blk_below (g:=gb133) (o:=.cells #[.slice (some ad138) l1_0.length c1_0] 37 (0,0)) (by (with_reducible repeat first|refine zl_ ?_ _|refine zr_ ?_|refine zk_ ?_ _);exact BK133.out) hb);have n3_:=zm_ (below_step (by repeat (first|(with_reducible first|exact HB.out|apply za_|apply zn_|apply zd_|refine zs_ ?_ GE132.out|refine zs_ ?_ GE133.out)|exact HB.out)) hb);have n4_:=zm_ (hbox);have n5_:=zm_ ((by rw [hg];exact (below_size (by repeat (first|(with_reducible first|exact HB.out|apply za_|apply zn_|apply zd_|refine zs_ ?_ GE132.out|refine zs_ ?_ GE133.out)|exact HB.out))) : w.heap.size ≤ gb139));have n6_:=zm_ ((by rw [hg];exact (below_size (by repeat (first|(with_reducible first|exact HB.out|apply za_|apply zn_|apply zd_|refine zs_ ?_ GE132.out|refine zs_ ?_ GE133.out)|exact HB.out))) : w.heap.size ≤ gb139));have n7_:=zm_ ((by rw [hg];exact Nat.ne_of_lt (blk_lt (g:=gb132) (o:=.cells #[.slice A0_0 l0_0.length c0_0] 33 (0,0)) (by (with_reducible repeat first|refine zl_ ?_ _|refine zr_ ?_|refine zk_ ?_ _);exact BK132.out)) : gb132 ≠ gb139));have n8_:=zm_ ((by rw [hg];exact Nat.ne_of_gt (blk_lt (g:=gb132) (o:=.cells #[.slice A0_0 l0_0.length c0_0] 33 (0,0)) (by (with_reducible repeat first|refine zl_ ?_ _|refine zr_ ?_|refine zk_ ?_ _);exact BK132.out)) : gb139 ≠ gb132));have n9_:=zm_ ((by rw [hg];exact Nat.ne_of_lt (blk_lt (g:=gb133) (o:=.cells #[.slice (some ad138) l1_0.length c1_0] 37 (0,0)) (by (with_reducible repeat first|refine zl_ ?_ _|refine zr_ ?_|refine zk_ ?_ _);exact BK133.out)) : gb133 ≠ gb139));have n10_:=zm_ ((by rw [hg];exact Nat.ne_of_gt (blk_lt (g:=gb133) (o:=.cells #[.slice (some ad138) l1_0.length c1_0] 37 (0,0)) (by (with_reducible repeat first|refine zl_ ?_ _|refine zr_ ?_|refine zk_ ?_ _);exact BK133.out)) : gb139 ≠ gb133));clear HO_5;clear BK132;clear BK133;clear HB;have HO_5:=n0_;have BK132:=n1_;have BK133:=n2_;have HB:=n3_;have BK139:=n4_;have GW139:=n5_;have GE139:=n6_;have NB132_139:=n7_;have NB139_132:=n8_;have NB133_139:=n9_;have NB139_133:=n10_;clear n0_ n1_ n2_ n3_ n4_ n5_ n6_ n7_ n8_ n9_ n10_;clear hb hbox hg;have hnb57:=NB139_132.out;have hnc57:=NB132_139.out;have hnb58:=NB139_133.out;have hnc58:=NB133_139.out;have hcz59_0 : w56.cell? ⟨gb139,0,none⟩ = some (.int .i64 0):=(zc_ BK139.out 0).trans rfl;have hcz59_1 : w56.cell? ⟨gb139,1,none⟩ = some (.int .i64 0):=(zc_ BK139.out 1).trans rfl;have hcz59_2 : w56.cell? ⟨gb139,2,none⟩ = some (.slice none 0 0):=(zc_ BK139.out 2).trans rfl;have hcz59_3 : w56.cell? ⟨gb139,3,none⟩ = some (.int .i64 0):=(zc_ BK139.out 3).trans rfl;have hcz59_4 : w56.cell? ⟨gb139,4,none⟩ = some (.int .i64 0):=(zc_ BK139.out 4).trans rfl;have hcz59_5 : w56.cell? ⟨gb139,5,none⟩ = some (.slice none 0 0):=(zc_ BK139.out 5).trans rfl;have hfz59_0:=zf_ BK139.out 0;have hfz59_1:=zf_ BK139.out 1;have hfz59_2:=zf_ BK139.out 2;have hfz59_3:=zf_ BK139.out 3;have hfz59_4:=zf_ BK139.out 4;have hfz59_5:=zf_ BK139.out 5;have hcz60_0 : w56.cell? ⟨gb132,0,none⟩ = some (.slice A0_0 l0_0.length c0_0):=(zc_ BK132.out 0).trans rfl;have hfz60_0:=zf_ BK132.out 0)|((with_reducible refine gate_callee (f:=14) rfl ?_);refine goesL_ (some 29) rfl rfl Try.func14 (by kernel_rfl) rfl #[.int .i64 ((rd_T47 l1_0 x6_1).f0),.int .i64 0,.int .i64 (wrap64 ((l0_0.length : Int) - 1))] rfl zq_ ?_;(with_reducible refine (spec_l01In.calls ((rd_T47 l1_0 x6_1).f0) 0 (wrap64 ((l0_0.length : Int) - 1)) false _ A9.out).mono ?_);rintro e w' ⟨rfl,⟨nd,rfl⟩⟩;refine ⟨_,rfl,?_⟩))
      go_ret
      exact ⟨zE_,by repeat (first|(with_reducible first|exact HB.out|apply za_|apply zn_|apply zd_|refine zs_ ?_ GE132.out|refine zs_ ?_ GE133.out|refine zs_ ?_ GE139.out)|exact HB.out)⟩
    ·rw [if_neg c8] at H
     exact absurd H (by simp)
   ·rw [if_neg c7] at H
    have c7b0 : decide (x6_1 < (l1_0.length : Int)) = false:=decide_eq_false c7
    clear c7
    by_cases c61 : (x5_1.length : Int) = 0
    ·rw [if_pos c61] at H
     have c61b0 : ((x5_1.length : Int) == 0) = true:=beq_iff_eq.mpr c61
     have c61b1 : ((x5_1.length : Int) != 0) = false:=bne_eq_false_iff_eq.mpr c61
     clear c61
     obtain rfl:=Option.some.inj H
     have hnb62:=NB133_132.out
     have hnc62:=NB132_133.out
     have hcz63_0 : wr.cell? ⟨gb133,0,none⟩ = some (.slice A1_0 l1_0.length c1_0):=(zc_ BK133.out 0).trans rfl
     have hfz63_0:=zf_ BK133.out 0
     obtain ⟨Ao64,co64,eo64⟩:=Kd.R_slice HO_5.out
     subst eo64
     go_wp2
     go_ret
     exact ⟨zE_,by repeat (first|(with_reducible first|exact HB.out|apply za_|apply zn_|apply zd_|refine zs_ ?_ GE132.out|refine zs_ ?_ GE133.out)|exact HB.out)⟩
    ·rw [if_neg c61] at H
     have c61b0 : ((x5_1.length : Int) == 0) = false:=beq_eq_false_iff_ne.mpr c61
     have c61b1 : ((x5_1.length : Int) != 0) = true:=bne_iff_ne.mpr c61
     have c61b2 : ¬ (x5_1 = []):=fun h_ => c61 (by rw [h_];rfl)
     obtain ⟨ji65,hji65⟩ : ∃ j_ : Int,(wrap64 ((x5_1.length : Int) - 1)) = j_:=⟨_,rfl⟩
     replace H : (if 0 ≤ (ji65) then (if (ji65) < (x5_1.length : Int) then (some (rdOf ByteArray.empty x5_1 (ji65))) else (none)) else (none)) = some r:=by first|(rw [hji65] at H;exact H)|(simp only [hji65] at H ⊢;exact H)
     have hji65w : (IntKind.i64.wrap ((x5_1.length : Int) - 1)) = ji65:=(i64_w _).trans hji65
     by_cases c66 : 0 ≤ (ji65)
     ·rw [if_pos c66] at H
      have c66b0 : decide (0 ≤ (ji65)) = true:=decide_eq_true c66
      clear c66
      by_cases c67 : (ji65) < (x5_1.length : Int)
      ·rw [if_pos c67] at H
       have c67b0 : decide ((ji65) < (x5_1.length : Int)) = true:=decide_eq_true c67
       clear c67
       obtain rfl:=Option.some.inj H
       have hnb68:=NB133_132.out
       have hnc68:=NB132_133.out
       have hcz69_0 : wr.cell? ⟨gb133,0,none⟩ = some (.slice A1_0 l1_0.length c1_0):=(zc_ BK133.out 0).trans rfl
       have hfz69_0:=zf_ BK133.out 0
       obtain ⟨Ao70,co70,eo70⟩:=Kd.R_slice HO_5.out
       subst eo70
       have p137 : 0 ≤ ((ji65) : Int):=zo_
       have q137 : (ji65) < (x5_1.length : Int):=zo_
       obtain ⟨ad137,e137,hx137_0⟩:=Kd.at_string (Kd.R_reads' HO_5.out).2.2 (ji65) p137 q137
       cases e137
       replace p137:=eq_true p137
       replace q137:=eq_true q137
       go_wp2
       go_ret
       exact ⟨by first|rfl|(simp [errW_none,errW_some] <;> rfl)|(simp only [← hji65];first|rfl|(simp [errW_none,errW_some] <;> rfl))|(simp [*,errW_none,errW_some] <;> rfl),by repeat (first|(with_reducible first|exact HB.out|apply za_|apply zn_|apply zd_|refine zs_ ?_ GE132.out|refine zs_ ?_ GE133.out)|exact HB.out)⟩
      ·rw [if_neg c67] at H
       exact absurd H (by simp)
     ·rw [if_neg c66] at H
      exact absurd H (by simp)

def laws_toStringS.l0 : Nat → List ByteArray → List ByteArray → Int → Option (List ByteArray)
 |0,_,_,_ => none
 |k + 1,x0,x3,x4 => if x4 < (x0.length : Int) then (if 0 ≤ x4 then (if x4 < (x3.length : Int) then (laws_toStringS.l0 k x0 (x3.set (x4 : Int).toNat (rdOf ByteArray.empty x0 x4)) (wrap64 (x4 + 1))) else (none)) else (none)) else (some x3)
def laws_toStringS.f (k : Nat) (l0 : List ByteArray) : Option (List ByteArray):=if 0 ≤ (l0.length : Int) then (if ((l0.length : Int) : Int).toNat ≤ 17592186044416 then (laws_toStringS.l0 k l0 (List.replicate ((l0.length : Int) : Int).toNat (⟨#[]⟩ : ByteArray)) 0) else (none)) else (none)
theorem laws_toStringS.mono_l : ∀ k,(∀ y0 y1 y2,LeO (laws_toStringS.l0 k y0 y1 y2) (laws_toStringS.l0 (k + 1) y0 y1 y2))
 |0 => fun _ _ _ r h => by simp [laws_toStringS.l0] at h
 |k + 1 => by
  have ih0:=laws_toStringS.mono_l k
  ·intro y0 y1 y2
   unfold laws_toStringS.l0
   repeat' first
   |(with_reducible exact ih0 _ _ _)
   |(with_reducible exact LeO.refl _)
   |(with_reducible exact LeO.none _)
   |(with_reducible refine LeO.ite ?_ ?_)
   |(with_reducible refine LeO.bind ?_ (fun _ => ?_))
theorem laws_toStringS.mono : ∀ a0 k,LeO (laws_toStringS.f k a0) (laws_toStringS.f (k + 1) a0):=by
 intro a0 k
 have ih0:=laws_toStringS.mono_l k
 unfold laws_toStringS.f
 repeat' first
   |(with_reducible exact ih0 _ _ _)
   |(with_reducible exact LeO.refl _)
   |(with_reducible exact LeO.none _)
   |(with_reducible refine LeO.ite ?_ ?_)
   |(with_reducible refine LeO.bind ?_ (fun _ => ?_))
set_option maxHeartbeats 8000000 in
set_option maxRecDepth 100000 in
theorem laws_toStringS.calls (k : Nat) (A0 : Option Addr) (c0 : Nat) (l0 : List ByteArray) (r : List ByteArray) (w : World) (hr0 : Kd.C Kd.string w A0 l0.length l0) (hc0 : l0.length ≤ c0) (h : laws_toStringS.f k l0 = some r) :
  Calls Try.prog 35 #[.slice A0 l0.length c0] w fun e w' => ∃ v0_ : Value,e = .returned (v0_) ∧ Kd.R Kd.string 9 w' w.heap.size (fun _ => True) v0_ r ∧ Below w.heap.size w w':=by
 have HR0:=zm_ hr0
 have HC0:=zm_ hc0
 clear hr0 hc0
 have HB:=zm_ (Below.refl w.heap.size w)
 have H : (if 0 ≤ (l0.length : Int) then (if ((l0.length : Int) : Int).toNat ≤ 17592186044416 then (laws_toStringS.l0 k l0 (List.replicate ((l0.length : Int) : Int).toNat (⟨#[]⟩ : ByteArray)) 0) else (none)) else (none)) = some r:=h
 clear h
 by_cases c2 : 0 ≤ (l0.length : Int)
 ·rw [if_pos c2] at H
  have c2b0:=eq_true c2
  have c2b1 : decide (0 ≤ (l0.length : Int)) = true:=decide_eq_true c2
  clear c2
  by_cases c3 : ((l0.length : Int) : Int).toNat ≤ 17592186044416
  ·rw [if_pos c3] at H
   have c3b0:=eq_true c3
   have c3b1 : decide (((l0.length : Int) : Int).toNat ≤ 17592186044416) = true:=decide_eq_true c3
   clear c3
   obtain ⟨y151,hy151⟩ : ∃ y_ : List ByteArray,y_ = (List.replicate ((l0.length : Int) : Int).toNat (⟨#[]⟩ : ByteArray)):=⟨_,rfl⟩
   replace H : (laws_toStringS.l0 k l0 y151 0) = some r:=by first|(rw [hy151];with_reducible exact H)|(have H2_:=(Option.bind_some _ _).symm.trans H;rw [hy151];with_reducible exact H2_)|(have H2_:=(Option.bind_some _ _).symm.trans H;with_reducible exact H2_)|with_reducible exact H|(rw [hy151];exact H)|exact H
   have Ny151:=zm_ hy151
   clear hy151
   have H':=zm_ H
   clear H
   go_enter Try.func35,Try.ntmps35
   go_wp2_with (first|((with_reducible refine gate_dst (N:=7) rfl ?_);refine Kd.R_make Kd.string _ 9 rfl (N:=7) rfl 44 _ _ rfl (l0.length : Int) rfl rfl Try.underlying44 (.string ⟨#[]⟩) 16 info9 rfl (by decide) (by omega) (⟨#[]⟩ : ByteArray) (ok:=fun _ => True) (okp:=fun _ => True) rfl (fun _ hk => hk) trivial (zo_) (Nat.le_trans (Nat.mul_le_mul_right _ (zo_ : (l0.length : Int).toNat ≤ 17592186044416)) (by omega)) (Below.refl _ _) (Nat.le_refl _) ?_;intro v152 w4 ho5 hb hg_ hnew_;clear hg_ hnew_;(first|rw [← Ny151.out] at ho5|(simp only [Int.reduceToNat] at ho5;rw [← Ny151.out] at ho5));have n0_:=zm_ (Kd.R_lower ho5 (below_size zB_));have n1_:=zm_ (below_step zB_ hb);clear HB;have HO153:=n0_;have HB:=n1_;clear n0_ n1_;clear hb ho5))
   go_loopg [4] k (fun kq v4 w' => ∃ (x3_1 : List ByteArray) (x4_1 : Int),v4 = .int .i64 x4_1 ∧ Aside0 (laws_toStringS.l0 kq l0 x3_1 x4_1 = some r) ∧ Aside0 (kq ≤ k) ∧ Aside0 (Kd.R Kd.string 9 w' w.heap.size (fun _ => True) v152 x3_1) ∧ Aside0 (Below w.heap.size w w'))
   case atStart => exact ⟨(y151),(0),zV_,H',⟨Nat.le_refl _⟩,⟨by (with_reducible repeat (first|apply Kd.R_alloc|apply Kd.R_drewN|apply Kd.R_drew));exact HO153.out⟩,⟨by repeat (first|(with_reducible first|exact HB.out|apply za_|apply zn_|apply zd_)|exact HB.out)⟩⟩
   case round =>
    clear H'
    try clear c2
    try clear c2b0
    try clear c2b1
    try clear p2
    try clear c3
    try clear c3b0
    try clear c3b1
    obtain ⟨x3_1,x4_1,rfl,HA,HK1,HO_3,HB⟩:=hrel
    cases gk with
    |zero => exact absurd HA.out (by simp [laws_toStringS.l0])
    |succ k1 =>
     have H:=HA.out
     clear HA
     simp only [laws_toStringS.l0] at H
     by_cases c6 : x4_1 < (l0.length : Int)
     ·rw [if_pos c6] at H
      have c6b0 : decide (x4_1 < (l0.length : Int)) = true:=decide_eq_true c6
      clear c6
      by_cases c7 : 0 ≤ x4_1
      ·rw [if_pos c7] at H
       have c7b0 : decide (0 ≤ x4_1) = true:=decide_eq_true c7
       clear c7
       by_cases c8 : x4_1 < (x3_1.length : Int)
       ·rw [if_pos c8] at H
        have c8b0 : decide (x4_1 < (x3_1.length : Int)) = true:=decide_eq_true c8
        clear c8
        obtain ⟨y155,hy155⟩ : ∃ y_ : List ByteArray,y_ = (x3_1.set (x4_1 : Int).toNat (rdOf ByteArray.empty l0 x4_1)):=⟨_,rfl⟩
        replace H : (laws_toStringS.l0 k1 l0 y155 (wrap64 (x4_1 + 1))) = some r:=by first|(rw [hy155];with_reducible exact H)|(have H2_:=(Option.bind_some _ _).symm.trans H;rw [hy155];with_reducible exact H2_)|(have H2_:=(Option.bind_some _ _).symm.trans H;with_reducible exact H2_)|with_reducible exact H|(rw [hy155];exact H)|exact H
        have Ny155:=zm_ hy155
        clear hy155
        have H':=zm_ H
        clear H
        have p154 : 0 ≤ (x4_1 : Int):=zo_
        have q154 : x4_1 < (l0.length : Int):=zo_
        obtain ⟨ad154,e154,hx154_0⟩:=Kd.at_string HR0.out x4_1 p154 q154
        cases e154
        replace hx154_0:=(HB.out.cell (zb_ w _ hx154_0)).trans hx154_0
        replace p154:=eq_true p154
        replace q154:=eq_true q154
        have p9 : 0 ≤ (x4_1 : Int):=zo_
        have q9 : (x4_1 : Int) < ((x3_1.length : Int) : Int):=zo_
        obtain ⟨go9,co9,eo9,gb9,gl9,cl9,HG9⟩:=Kd.R_form HO_3.out (by omega)
        (first|cases eo9|(injection eo9 with ea_ en_ ec_;(first|subst ea_|(injection ea_ with ea_;subst ea_));subst ec_;clear en_))
        have GB9:=zm_ gb9
        have GG9:=zm_ HG9
        clear gb9 gl9 HG9
        obtain ⟨hx9_0,hf9_0⟩:=Kd.R_celln (⟨#[]⟩ : ByteArray) HO_3.out (x4_1 : Int) p9 q9
        replace p9:=eq_true p9
        replace q9:=eq_true q9
        have HP10:=Kd.R_putg HO_3.out (x4_1 : Int) (rdOf ByteArray.empty l0 x4_1)
        go_wp2_with (first|((with_reducible refine gate_store (t:=9) (p:=20) rfl ?_);refine store_event (t:=9) (p:=20) (v:=?vo_w11) (w1:=(wr.setCell ⟨go9,(x4_1 : Int).toNat,none⟩ (.string (rdOf ByteArray.empty l0 x4_1)))) ?hg ?ho ?hn ?hr ?_;(case ho => rfl);(case hg => rfl);(case hn => rfl);(case hr => first|(go_simp;done)|(go_simp;rfl));intro w11 hw;have hg : wr.grownBy w11 (some go9):=(by rw [hw];exact HP10.2);have hp_ : Kd.R Kd.string 9 w11 w.heap.size (fun _ => True) (.slice (some ⟨go9,0,none⟩) x3_1.length co9) y155:=(by rw [hw,Ny155.out];exact HP10.1);clear HP10;have n0_:=zm_ (hp_);have n1_:=zm_ ((by rw [hw];exact zs_ (HB.out) GB9.out : Below w.heap.size w w11));clear HO_3;clear HB;have HO_3:=n0_;have HB:=n1_;clear n0_ n1_;clear hg hw hp_))
        go_roundg k1
        case measure => have:=HK1.out;omega
        case rel => exact ⟨(y155),(wrap64 (x4_1 + 1)),zV_,H',⟨by have:=HK1.out;omega⟩,⟨by (with_reducible repeat (first|apply Kd.R_alloc|apply Kd.R_drewN|apply Kd.R_drew));exact HO_3.out⟩,⟨by repeat (first|(with_reducible first|exact HB.out|apply za_|apply zn_|apply zd_)|exact HB.out)⟩⟩
       ·rw [if_neg c8] at H
        exact absurd H (by simp)
      ·rw [if_neg c7] at H
       exact absurd H (by simp)
     ·rw [if_neg c6] at H
      have c6b0 : decide (x4_1 < (l0.length : Int)) = false:=decide_eq_false c6
      clear c6
      obtain rfl:=Option.some.inj H
      go_wp2
      go_ret
      exact ⟨_,by first|rfl|(simp [errW_none,errW_some] <;> rfl)|(simp [*,errW_none,errW_some] <;> rfl),by (with_reducible repeat (first|apply Kd.R_alloc|apply Kd.R_drewN|apply Kd.R_drew));exact HO_3.out,by repeat (first|(with_reducible first|exact HB.out|apply za_|apply zn_|apply zd_)|exact HB.out)⟩
  ·rw [if_neg c3] at H
   exact absurd H (by simp)
 ·rw [if_neg c2] at H
  exact absurd H (by simp)

def laws_toIntS.l0 : Nat → List Int → List Int → Int → Option (List Int)
 |0,_,_,_ => none
 |k + 1,x0,x3,x4 => if x4 < (x0.length : Int) then (if 0 ≤ x4 then (if x4 < (x3.length : Int) then (laws_toIntS.l0 k x0 (x3.set (x4 : Int).toNat (rd x0 x4)) (wrap64 (x4 + 1))) else (none)) else (none)) else (some x3)
def laws_toIntS.f (k : Nat) (l0 : List Int) : Option (List Int):=if 0 ≤ (l0.length : Int) then (if ((l0.length : Int) : Int).toNat ≤ 35184372088832 then (laws_toIntS.l0 k l0 (List.replicate ((l0.length : Int) : Int).toNat 0) 0) else (none)) else (none)
theorem laws_toIntS.mono_l : ∀ k,(∀ y0 y1 y2,LeO (laws_toIntS.l0 k y0 y1 y2) (laws_toIntS.l0 (k + 1) y0 y1 y2))
 |0 => fun _ _ _ r h => by simp [laws_toIntS.l0] at h
 |k + 1 => by
  have ih0:=laws_toIntS.mono_l k
  ·intro y0 y1 y2
   unfold laws_toIntS.l0
   repeat' first
   |(with_reducible exact ih0 _ _ _)
   |(with_reducible exact LeO.refl _)
   |(with_reducible exact LeO.none _)
   |(with_reducible refine LeO.ite ?_ ?_)
   |(with_reducible refine LeO.bind ?_ (fun _ => ?_))
theorem laws_toIntS.mono : ∀ a0 k,LeO (laws_toIntS.f k a0) (laws_toIntS.f (k + 1) a0):=by
 intro a0 k
 have ih0:=laws_toIntS.mono_l k
 unfold laws_toIntS.f
 repeat' first
   |(with_reducible exact ih0 _ _ _)
   |(with_reducible exact LeO.refl _)
   |(with_reducible exact LeO.none _)
   |(with_reducible refine LeO.ite ?_ ?_)
   |(with_reducible refine LeO.bind ?_ (fun _ => ?_))
set_option maxHeartbeats 8000000 in
set_option maxRecDepth 100000 in
theorem laws_toIntS.calls (k : Nat) (A0 : Option Addr) (c0 : Nat) (l0 : List Int) (r : List Int) (w : World) (hr0 : Kd.C (Kd.int .i64) w A0 l0.length l0) (hc0 : l0.length ≤ c0) (h : laws_toIntS.f k l0 = some r) :
  Calls Try.prog 37 #[.slice A0 l0.length c0] w fun e w' => ∃ v0_ : Value,e = .returned (v0_) ∧ Kd.R (Kd.int .i64) 3 w' w.heap.size (fun _ => True) v0_ r ∧ Below w.heap.size w w':=by
 have HR0:=zm_ hr0
 have HC0:=zm_ hc0
 clear hr0 hc0
 have HB:=zm_ (Below.refl w.heap.size w)
 have H : (if 0 ≤ (l0.length : Int) then (if ((l0.length : Int) : Int).toNat ≤ 35184372088832 then (laws_toIntS.l0 k l0 (List.replicate ((l0.length : Int) : Int).toNat 0) 0) else (none)) else (none)) = some r:=h
 clear h
 by_cases c2 : 0 ≤ (l0.length : Int)
 ·rw [if_pos c2] at H
  have c2b0:=eq_true c2
  have c2b1 : decide (0 ≤ (l0.length : Int)) = true:=decide_eq_true c2
  clear c2
  by_cases c3 : ((l0.length : Int) : Int).toNat ≤ 35184372088832
  ·rw [if_pos c3] at H
   have c3b0:=eq_true c3
   have c3b1 : decide (((l0.length : Int) : Int).toNat ≤ 35184372088832) = true:=decide_eq_true c3
   clear c3
   obtain ⟨y156,hy156⟩ : ∃ y_ : List Int,y_ = (List.replicate ((l0.length : Int) : Int).toNat 0):=⟨_,rfl⟩
   replace H : (laws_toIntS.l0 k l0 y156 0) = some r:=by first|(rw [hy156];with_reducible exact H)|(have H2_:=(Option.bind_some _ _).symm.trans H;rw [hy156];with_reducible exact H2_)|(have H2_:=(Option.bind_some _ _).symm.trans H;with_reducible exact H2_)|with_reducible exact H|(rw [hy156];exact H)|exact H
   have Ny156:=zm_ hy156
   clear hy156
   have H':=zm_ H
   clear H
   go_enter Try.func37,Try.ntmps37
   go_wp2_with (first|((with_reducible refine gate_dst (N:=7) rfl ?_);refine Kd.R_make (Kd.int .i64) _ 3 rfl (N:=7) rfl 45 _ _ rfl (l0.length : Int) rfl rfl Try.underlying45 (.int .i64 0) 8 info3 rfl (by decide) (by omega) 0 (ok:=fun _ => True) (okp:=fun _ => True) rfl (fun _ hk => hk) trivial (zo_) (Nat.le_trans (Nat.mul_le_mul_right _ (zo_ : (l0.length : Int).toNat ≤ 35184372088832)) (by omega)) (Below.refl _ _) (Nat.le_refl _) ?_;intro v157 w4 ho5 hb hg_ hnew_;clear hg_ hnew_;(first|rw [← Ny156.out] at ho5|(simp only [Int.reduceToNat] at ho5;rw [← Ny156.out] at ho5));have n0_:=zm_ (Kd.R_lower ho5 (below_size zB_));have n1_:=zm_ (below_step zB_ hb);clear HB;have HO158:=n0_;have HB:=n1_;clear n0_ n1_;clear hb ho5))
   go_loopg [4] k (fun kq v4 w' => ∃ (x3_1 : List Int) (x4_1 : Int),v4 = .int .i64 x4_1 ∧ Aside0 (laws_toIntS.l0 kq l0 x3_1 x4_1 = some r) ∧ Aside0 (kq ≤ k) ∧ Aside0 (Kd.R (Kd.int .i64) 3 w' w.heap.size (fun _ => True) v157 x3_1) ∧ Aside0 (Below w.heap.size w w'))
   case atStart => exact ⟨(y156),(0),zV_,H',⟨Nat.le_refl _⟩,⟨by (with_reducible repeat (first|apply Kd.R_alloc|apply Kd.R_drewN|apply Kd.R_drew));exact HO158.out⟩,⟨by repeat (first|(with_reducible first|exact HB.out|apply za_|apply zn_|apply zd_)|exact HB.out)⟩⟩
   case round =>
    clear H'
    try clear c2
    try clear c2b0
    try clear c2b1
    try clear p2
    try clear c3
    try clear c3b0
    try clear c3b1
    obtain ⟨x3_1,x4_1,rfl,HA,HK1,HO_3,HB⟩:=hrel
    cases gk with
    |zero => exact absurd HA.out (by simp [laws_toIntS.l0])
    |succ k1 =>
     have H:=HA.out
     clear HA
     simp only [laws_toIntS.l0] at H
     by_cases c6 : x4_1 < (l0.length : Int)
     ·rw [if_pos c6] at H
      have c6b0 : decide (x4_1 < (l0.length : Int)) = true:=decide_eq_true c6
      clear c6
      by_cases c7 : 0 ≤ x4_1
      ·rw [if_pos c7] at H
       have c7b0 : decide (0 ≤ x4_1) = true:=decide_eq_true c7
       clear c7
       by_cases c8 : x4_1 < (x3_1.length : Int)
       ·rw [if_pos c8] at H
        have c8b0 : decide (x4_1 < (x3_1.length : Int)) = true:=decide_eq_true c8
        clear c8
        obtain ⟨y160,hy160⟩ : ∃ y_ : List Int,y_ = (x3_1.set (x4_1 : Int).toNat (rd l0 x4_1)):=⟨_,rfl⟩
        replace H : (laws_toIntS.l0 k1 l0 y160 (wrap64 (x4_1 + 1))) = some r:=by first|(rw [hy160];with_reducible exact H)|(have H2_:=(Option.bind_some _ _).symm.trans H;rw [hy160];with_reducible exact H2_)|(have H2_:=(Option.bind_some _ _).symm.trans H;with_reducible exact H2_)|with_reducible exact H|(rw [hy160];exact H)|exact H
        have Ny160:=zm_ hy160
        clear hy160
        have H':=zm_ H
        clear H
        have p159 : 0 ≤ (x4_1 : Int):=zo_
        have q159 : x4_1 < (l0.length : Int):=zo_
        obtain ⟨ad159,e159,hx159_0⟩:=Kd.at_int HR0.out x4_1 p159 q159
        cases e159
        replace hx159_0:=(HB.out.cell (zb_ w _ hx159_0)).trans hx159_0
        replace p159:=eq_true p159
        replace q159:=eq_true q159
        have p9 : 0 ≤ (x4_1 : Int):=zo_
        have q9 : (x4_1 : Int) < ((x3_1.length : Int) : Int):=zo_
        obtain ⟨go9,co9,eo9,gb9,gl9,cl9,HG9⟩:=Kd.R_form HO_3.out (by omega)
        (first|cases eo9|(injection eo9 with ea_ en_ ec_;(first|subst ea_|(injection ea_ with ea_;subst ea_));subst ec_;clear en_))
        have GB9:=zm_ gb9
        have GG9:=zm_ HG9
        clear gb9 gl9 HG9
        obtain ⟨hx9_0,hf9_0⟩:=Kd.R_celln 0 HO_3.out (x4_1 : Int) p9 q9
        replace p9:=eq_true p9
        replace q9:=eq_true q9
        have HP10:=Kd.R_putg HO_3.out (x4_1 : Int) (rd l0 x4_1)
        go_wp2_with (first|((with_reducible refine gate_store (t:=3) (p:=20) rfl ?_);refine store_event (t:=3) (p:=20) (v:=?vo_w11) (w1:=(wr.setCell ⟨go9,(x4_1 : Int).toNat,none⟩ (.int .i64 (rd l0 x4_1)))) ?hg ?ho ?hn ?hr ?_;(case ho => rfl);(case hg => rfl);(case hn => rfl);(case hr => first|(go_simp;done)|(go_simp;rfl));intro w11 hw;have hg : wr.grownBy w11 (some go9):=(by rw [hw];exact HP10.2);have hp_ : Kd.R (Kd.int .i64) 3 w11 w.heap.size (fun _ => True) (.slice (some ⟨go9,0,none⟩) x3_1.length co9) y160:=(by rw [hw,Ny160.out];exact HP10.1);clear HP10;have n0_:=zm_ (hp_);have n1_:=zm_ ((by rw [hw];exact zs_ (HB.out) GB9.out : Below w.heap.size w w11));clear HO_3;clear HB;have HO_3:=n0_;have HB:=n1_;clear n0_ n1_;clear hg hw hp_))
        go_roundg k1
        case measure => have:=HK1.out;omega
        case rel => exact ⟨(y160),(wrap64 (x4_1 + 1)),zV_,H',⟨by have:=HK1.out;omega⟩,⟨by (with_reducible repeat (first|apply Kd.R_alloc|apply Kd.R_drewN|apply Kd.R_drew));exact HO_3.out⟩,⟨by repeat (first|(with_reducible first|exact HB.out|apply za_|apply zn_|apply zd_)|exact HB.out)⟩⟩
       ·rw [if_neg c8] at H
        exact absurd H (by simp)
      ·rw [if_neg c7] at H
       exact absurd H (by simp)
     ·rw [if_neg c6] at H
      have c6b0 : decide (x4_1 < (l0.length : Int)) = false:=decide_eq_false c6
      clear c6
      obtain rfl:=Option.some.inj H
      go_wp2
      go_ret
      exact ⟨_,by first|rfl|(simp [errW_none,errW_some] <;> rfl)|(simp [*,errW_none,errW_some] <;> rfl),by (with_reducible repeat (first|apply Kd.R_alloc|apply Kd.R_drewN|apply Kd.R_drew));exact HO_3.out,by repeat (first|(with_reducible first|exact HB.out|apply za_|apply zn_|apply zd_)|exact HB.out)⟩
  ·rw [if_neg c3] at H
   exact absurd H (by simp)
 ·rw [if_neg c2] at H
  exact absurd H (by simp)

def laws_toExNode.f (k : Nat) (a0_0 : Int) (a0_1 : Int) (a0_2 : ByteArray) (l0_3 : List Int) : Option (Int × Int × ByteArray × List Int):=(laws_toIntS.f k l0_3).bind fun t164 => (some (a0_0,a0_1,a0_2,t164))
theorem laws_toExNode.mono : ∀ a0 a1 a2 a3 k,LeO (laws_toExNode.f k a0 a1 a2 a3) (laws_toExNode.f (k + 1) a0 a1 a2 a3):=by
 intro a0 a1 a2 a3 k
 unfold laws_toExNode.f
 repeat' first
   |(with_reducible exact laws_toIntS.mono _ _)
   |(with_reducible exact LeO.refl _)
   |(with_reducible exact LeO.none _)
   |(with_reducible refine LeO.ite ?_ ?_)
   |(with_reducible refine LeO.bind ?_ (fun _ => ?_))
set_option maxHeartbeats 8000000 in
set_option maxRecDepth 100000 in
theorem laws_toExNode.calls (k : Nat) (a0_0 : Int) (a0_1 : Int) (a0_2 : ByteArray) (A0_3 : Option Addr) (c0_3 : Nat) (l0_3 : List Int) (r1 : Int) (r2 : Int) (r3 : ByteArray) (r4 : List Int) (w : World) (hr0_3 : Kd.C (Kd.int .i64) w A0_3 l0_3.length l0_3) (hc0_3 : l0_3.length ≤ c0_3) (h : laws_toExNode.f k a0_0 a0_1 a0_2 l0_3 = some (r1,r2,r3,r4)) :
  Calls Try.prog 64 #[.agg #[.int .i64 a0_0,.int .i64 a0_1,.string a0_2,.slice A0_3 l0_3.length c0_3]] w fun e w' => ∃ v3_ : Value,e = .returned (.agg #[.int .i64 r1,.int .i64 r2,.string r3,v3_]) ∧ Kd.R (Kd.int .i64) 3 w' w.heap.size (fun _ => True) v3_ r4 ∧ Below w.heap.size w w':=by
 have hu130:=Try.underlying130
 have hu131:=Try.underlying131
 have HR0_3:=zm_ hr0_3
 have HC0_3:=zm_ hc0_3
 clear hr0_3 hc0_3
 have HB:=zm_ (Below.refl w.heap.size w)
 have H : ((laws_toIntS.f k l0_3).bind fun t164 => (some (a0_0,a0_1,a0_2,t164))) = some (r1,r2,r3,r4):=h
 clear h
 replace H:=Option.bind_eq_some_iff.mp H
 obtain ⟨t164,A20,H⟩:=H
 replace H : (some (a0_0,a0_1,a0_2,t164)) = some (r1,r2,r3,r4):=H
 have A2:=zm_ A20
 clear A20
 simp only [Option.some.injEq,Prod.mk.injEq] at H
 obtain ⟨rfl,rfl,rfl,rfl⟩:=H
 go_enter Try.func64,Try.ntmps64
 go_wp2_with (first|((with_reducible refine gate_dst (N:=1) rfl ?_);refine box_event ?hg (N:=1) ?hd (cs:=#[.int .i64 a0_0,.int .i64 a0_1,.string a0_2,.slice A0_3 l0_3.length c0_3]) (t:=130) ?hr ?_;(case hd => rfl);(case hg => rfl);(case hr => first|(go_simp;done)|(go_simp;rfl));intro gb161 hg w3 hbox hb;have n0_:=zm_ (below_step zB_ hb);have n1_:=zm_ (hbox);have n2_:=zm_ ((by rw [hg];exact (below_size zB_) : w.heap.size ≤ gb161));have n3_:=zm_ ((by rw [hg];exact (below_size zB_) : w.heap.size ≤ gb161));clear HB;have HB:=n0_;have BK161:=n1_;have GW161:=n2_;have GE161:=n3_;clear n0_ n1_ n2_ n3_;clear hb hbox hg)|((with_reducible refine gate_dst (N:=2) rfl ?_);refine box_event ?hg (N:=2) ?hd (cs:=#[.int .i64 0,.int .i64 0,.string (⟨#[]⟩ : ByteArray),.slice none 0 0]) (t:=131) ?hr ?_;(case hd => rfl);(case hg => rfl);(case hr => first|(go_simp;done)|(go_simp;rfl));intro gb162 hg w4 hbox hb;have n0_:=zm_ (blk_below (g:=gb161) (o:=.cells #[.int .i64 a0_0,.int .i64 a0_1,.string a0_2,.slice A0_3 l0_3.length c0_3] 130 (0,0)) (by (with_reducible repeat first|refine zl_ ?_ _|refine zr_ ?_|refine zk_ ?_ _);exact BK161.out) hb);have n1_:=zm_ (below_step (by repeat (first|(with_reducible first|exact HB.out|apply za_|apply zn_|apply zd_|refine zs_ ?_ GE161.out)|exact HB.out)) hb);have n2_:=zm_ (hbox);have n3_:=zm_ ((by rw [hg];exact (below_size (by repeat (first|(with_reducible first|exact HB.out|apply za_|apply zn_|apply zd_|refine zs_ ?_ GE161.out)|exact HB.out))) : w.heap.size ≤ gb162));have n4_:=zm_ ((by rw [hg];exact (below_size (by repeat (first|(with_reducible first|exact HB.out|apply za_|apply zn_|apply zd_|refine zs_ ?_ GE161.out)|exact HB.out))) : w.heap.size ≤ gb162));have n5_:=zm_ ((by rw [hg];exact Nat.ne_of_lt (blk_lt (g:=gb161) (o:=.cells #[.int .i64 a0_0,.int .i64 a0_1,.string a0_2,.slice A0_3 l0_3.length c0_3] 130 (0,0)) (by (with_reducible repeat first|refine zl_ ?_ _|refine zr_ ?_|refine zk_ ?_ _);exact BK161.out)) : gb161 ≠ gb162));have n6_:=zm_ ((by rw [hg];exact Nat.ne_of_gt (blk_lt (g:=gb161) (o:=.cells #[.int .i64 a0_0,.int .i64 a0_1,.string a0_2,.slice A0_3 l0_3.length c0_3] 130 (0,0)) (by (with_reducible repeat first|refine zl_ ?_ _|refine zr_ ?_|refine zk_ ?_ _);exact BK161.out)) : gb162 ≠ gb161));clear BK161;clear HB;have BK161:=n0_;have HB:=n1_;have BK162:=n2_;have GW162:=n3_;have GE162:=n4_;have NB161_162:=n5_;have NB162_161:=n6_;clear n0_ n1_ n2_ n3_ n4_ n5_ n6_;clear hb hbox hg)|((with_reducible refine gate_dst (N:=3) rfl ?_);refine box_event ?hg (N:=3) ?hd (cs:=#[.int .i64 0,.int .i64 0,.string (⟨#[]⟩ : ByteArray),.slice none 0 0]) (t:=131) ?hr ?_;(case hd => rfl);(case hg => rfl);(case hr => first|(go_simp;done)|(go_simp;rfl));intro gb163 hg w5 hbox hb;have n0_:=zm_ (blk_below (g:=gb161) (o:=.cells #[.int .i64 a0_0,.int .i64 a0_1,.string a0_2,.slice A0_3 l0_3.length c0_3] 130 (0,0)) (by (with_reducible repeat first|refine zl_ ?_ _|refine zr_ ?_|refine zk_ ?_ _);exact BK161.out) hb);have n1_:=zm_ (blk_below (g:=gb162) (o:=.cells #[.int .i64 0,.int .i64 0,.string (⟨#[]⟩ : ByteArray),.slice none 0 0] 131 (0,0)) (by (with_reducible repeat first|refine zl_ ?_ _|refine zr_ ?_|refine zk_ ?_ _);exact BK162.out) hb);have n2_:=zm_ (below_step (by repeat (first|(with_reducible first|exact HB.out|apply za_|apply zn_|apply zd_|refine zs_ ?_ GE161.out|refine zs_ ?_ GE162.out)|exact HB.out)) hb);have n3_:=zm_ (hbox);have n4_:=zm_ ((by rw [hg];exact (below_size (by repeat (first|(with_reducible first|exact HB.out|apply za_|apply zn_|apply zd_|refine zs_ ?_ GE161.out|refine zs_ ?_ GE162.out)|exact HB.out))) : w.heap.size ≤ gb163));have n5_:=zm_ ((by rw [hg];exact (below_size (by repeat (first|(with_reducible first|exact HB.out|apply za_|apply zn_|apply zd_|refine zs_ ?_ GE161.out|refine zs_ ?_ GE162.out)|exact HB.out))) : w.heap.size ≤ gb163));have n6_:=zm_ ((by rw [hg];exact Nat.ne_of_lt (blk_lt (g:=gb161) (o:=.cells #[.int .i64 a0_0,.int .i64 a0_1,.string a0_2,.slice A0_3 l0_3.length c0_3] 130 (0,0)) (by (with_reducible repeat first|refine zl_ ?_ _|refine zr_ ?_|refine zk_ ?_ _);exact BK161.out)) : gb161 ≠ gb163));have n7_:=zm_ ((by rw [hg];exact Nat.ne_of_gt (blk_lt (g:=gb161) (o:=.cells #[.int .i64 a0_0,.int .i64 a0_1,.string a0_2,.slice A0_3 l0_3.length c0_3] 130 (0,0)) (by (with_reducible repeat first|refine zl_ ?_ _|refine zr_ ?_|refine zk_ ?_ _);exact BK161.out)) : gb163 ≠ gb161));have n8_:=zm_ ((by rw [hg];exact Nat.ne_of_lt (blk_lt (g:=gb162) (o:=.cells #[.int .i64 0,.int .i64 0,.string (⟨#[]⟩ : ByteArray),.slice none 0 0] 131 (0,0)) (by (with_reducible repeat first|refine zl_ ?_ _|refine zr_ ?_|refine zk_ ?_ _);exact BK162.out)) : gb162 ≠ gb163));have n9_:=zm_ ((by rw [hg];exact Nat.ne_of_gt (blk_lt (g:=gb162) (o:=.cells #[.int .i64 0,.int .i64 0,.string (⟨#[]⟩ : ByteArray),.slice none 0 0] 131 (0,0)) (by (with_reducible repeat first|refine zl_ ?_ _|refine zr_ ?_|refine zk_ ?_ _);exact BK162.out)) : gb163 ≠ gb162));clear BK161;clear BK162;clear HB;have BK161:=n0_;have BK162:=n1_;have HB:=n2_;have BK163:=n3_;have GW163:=n4_;have GE163:=n5_;have NB161_163:=n6_;have NB163_161:=n7_;have NB162_163:=n8_;have NB163_162:=n9_;clear n0_ n1_ n2_ n3_ n4_ n5_ n6_ n7_ n8_ n9_;clear hb hbox hg;have hnb6:=NB161_162.out;have hnc6:=NB162_161.out;have hnb7:=NB161_163.out;have hnc7:=NB163_161.out;have hcz8_0 : w5.cell? ⟨gb161,0,none⟩ = some (.int .i64 a0_0):=(zc_ BK161.out 0).trans rfl;have hcz8_1 : w5.cell? ⟨gb161,1,none⟩ = some (.int .i64 a0_1):=(zc_ BK161.out 1).trans rfl;have hcz8_2 : w5.cell? ⟨gb161,2,none⟩ = some (.string a0_2):=(zc_ BK161.out 2).trans rfl;have hcz8_3 : w5.cell? ⟨gb161,3,none⟩ = some (.slice A0_3 l0_3.length c0_3):=(zc_ BK161.out 3).trans rfl;have hfz8_0:=zf_ BK161.out 0;have hfz8_1:=zf_ BK161.out 1;have hfz8_2:=zf_ BK161.out 2;have hfz8_3:=zf_ BK161.out 3;have hnb9:=NB163_162.out;have hnc9:=NB162_163.out;have hcz10_0 : w5.cell? ⟨gb163,0,none⟩ = some (.int .i64 0):=(zc_ BK163.out 0).trans rfl;have hcz10_1 : w5.cell? ⟨gb163,1,none⟩ = some (.int .i64 0):=(zc_ BK163.out 1).trans rfl;have hcz10_2 : w5.cell? ⟨gb163,2,none⟩ = some (.string (⟨#[]⟩ : ByteArray)):=(zc_ BK163.out 2).trans rfl;have hcz10_3 : w5.cell? ⟨gb163,3,none⟩ = some (.slice none 0 0):=(zc_ BK163.out 3).trans rfl;have hfz10_0:=zf_ BK163.out 0;have hfz10_1:=zf_ BK163.out 1;have hfz10_2:=zf_ BK163.out 2;have hfz10_3:=zf_ BK163.out 3)|((with_reducible refine gate_callee (f:=37) rfl ?_);refine goesL_ (some 15) rfl rfl Try.func37 (by kernel_rfl) rfl #[.slice A0_3 l0_3.length c0_3] rfl zq_ ?_;(with_reducible refine (laws_toIntS.calls k _ _ l0_3 t164 _ ?side1 ?side2 A2.out).mono ?_);(case side1 => exact Kd.C_below HR0_3.out (by repeat (first|(with_reducible first|exact HB.out|apply za_|apply zn_|apply zd_|refine zs_ ?_ GE161.out|refine zs_ ?_ GE162.out|refine zs_ ?_ GE163.out)|exact HB.out)));(case side2 => exact HC0_3.out);rintro e w11 ⟨v165,rfl,ho0,hb⟩;refine ⟨_,rfl,?_⟩;have n0_:=zm_ (Kd.R_lower ho0 (below_size (by repeat (first|(with_reducible first|exact HB.out|apply za_|apply zn_|apply zd_|refine zs_ ?_ GE161.out|refine zs_ ?_ GE162.out|refine zs_ ?_ GE163.out)|exact HB.out))));have n1_:=zm_ (blk_below (g:=gb161) (o:=.cells #[.int .i64 a0_0,.int .i64 a0_1,.string a0_2,.slice A0_3 l0_3.length c0_3] 130 (0,0)) (by (with_reducible repeat first|refine zl_ ?_ _|refine zr_ ?_|refine zk_ ?_ _);refine blk_far ?_ NB161_163.out _;(with_reducible repeat first|refine zl_ ?_ _|refine zr_ ?_|refine zk_ ?_ _);refine blk_far ?_ NB161_163.out _;(with_reducible repeat first|refine zl_ ?_ _|refine zr_ ?_|refine zk_ ?_ _);refine blk_far ?_ NB161_163.out _;(with_reducible repeat first|refine zl_ ?_ _|refine zr_ ?_|refine zk_ ?_ _);exact BK161.out) hb);have n2_:=zm_ (blk_below (g:=gb162) (o:=.cells #[.int .i64 0,.int .i64 0,.string (⟨#[]⟩ : ByteArray),.slice none 0 0] 131 (0,0)) (by (with_reducible repeat first|refine zl_ ?_ _|refine zr_ ?_|refine zk_ ?_ _);refine blk_far ?_ NB162_163.out _;(with_reducible repeat first|refine zl_ ?_ _|refine zr_ ?_|refine zk_ ?_ _);refine blk_far ?_ NB162_163.out _;(with_reducible repeat first|refine zl_ ?_ _|refine zr_ ?_|refine zk_ ?_ _);refine blk_far ?_ NB162_163.out _;(with_reducible repeat first|refine zl_ ?_ _|refine zr_ ?_|refine zk_ ?_ _);exact BK162.out) hb);have n3_:=zm_ (blk_below (g:=gb163) (o:=.cells #[.int .i64 a0_0,.int .i64 a0_1,.string a0_2,.slice none 0 0] 131 (0,0)) (by (with_reducible repeat first|refine zl_ ?_ _|refine zr_ ?_|refine zk_ ?_ _);refine blk_put (cs:=#[.int .i64 a0_0,.int .i64 a0_1,.string (⟨#[]⟩ : ByteArray),.slice none 0 0]) ?_ 2 _ rfl;(with_reducible repeat first|refine zl_ ?_ _|refine zr_ ?_|refine zk_ ?_ _);refine blk_put (cs:=#[.int .i64 a0_0,.int .i64 0,.string (⟨#[]⟩ : ByteArray),.slice none 0 0]) ?_ 1 _ rfl;(with_reducible repeat first|refine zl_ ?_ _|refine zr_ ?_|refine zk_ ?_ _);refine blk_put (cs:=#[.int .i64 0,.int .i64 0,.string (⟨#[]⟩ : ByteArray),.slice none 0 0]) ?_ 0 _ rfl;(with_reducible repeat first|refine zl_ ?_ _|refine zr_ ?_|refine zk_ ?_ _);exact BK163.out) hb);have n4_:=zm_ (below_step (by repeat (first|(with_reducible first|exact HB.out|apply za_|apply zn_|apply zd_|refine zs_ ?_ GE161.out|refine zs_ ?_ GE162.out|refine zs_ ?_ GE163.out)|exact HB.out)) hb);clear BK161;clear BK162;clear BK163;clear HB;have HO166:=n0_;have BK161:=n1_;have BK162:=n2_;have BK163:=n3_;have HB:=n4_;clear n0_ n1_ n2_ n3_ n4_;(try clear hb);(try clear hb2);(try clear hk);(try clear hi);(try clear ho0);obtain ⟨Ao12,co12,eo12⟩:=Kd.R_slice HO166.out;subst eo12;have hcz13_0 : w11.cell? ⟨gb163,0,none⟩ = some (.int .i64 a0_0):=(zc_ BK163.out 0).trans rfl;have hcz13_1 : w11.cell? ⟨gb163,1,none⟩ = some (.int .i64 a0_1):=(zc_ BK163.out 1).trans rfl;have hcz13_2 : w11.cell? ⟨gb163,2,none⟩ = some (.string a0_2):=(zc_ BK163.out 2).trans rfl;have hcz13_3 : w11.cell? ⟨gb163,3,none⟩ = some (.slice none 0 0):=(zc_ BK163.out 3).trans rfl;have hfz13_0:=zf_ BK163.out 0;have hfz13_1:=zf_ BK163.out 1;have hfz13_2:=zf_ BK163.out 2;have hfz13_3:=zf_ BK163.out 3;have hcz14_0 : w11.cell? ⟨gb162,0,none⟩ = some (.int .i64 0):=(zc_ BK162.out 0).trans rfl;have hcz14_1 : w11.cell? ⟨gb162,1,none⟩ = some (.int .i64 0):=(zc_ BK162.out 1).trans rfl;have hcz14_2 : w11.cell? ⟨gb162,2,none⟩ = some (.string (⟨#[]⟩ : ByteArray)):=(zc_ BK162.out 2).trans rfl;have hcz14_3 : w11.cell? ⟨gb162,3,none⟩ = some (.slice none 0 0):=(zc_ BK162.out 3).trans rfl;have hfz14_0:=zf_ BK162.out 0;have hfz14_1:=zf_ BK162.out 1;have hfz14_2:=zf_ BK162.out 2;have hfz14_3:=zf_ BK162.out 3))
 refine bodyPost_ret (results_cell_row rfl _ _ gb162 131 #[.int .i64 a0_0,.int .i64 a0_1,.string a0_2,.slice Ao12 t164.length co12] (0,0) _ rfl (by (with_reducible repeat first|refine zl_ ?_ _|refine zr_ ?_|refine zk_ ?_ _);refine blk_put (cs:=#[.int .i64 a0_0,.int .i64 a0_1,.string a0_2,.slice none 0 0]) ?_ 3 _ rfl;(with_reducible repeat first|refine zl_ ?_ _|refine zr_ ?_|refine zk_ ?_ _);refine blk_put (cs:=#[.int .i64 a0_0,.int .i64 a0_1,.string (⟨#[]⟩ : ByteArray),.slice none 0 0]) ?_ 2 _ rfl;(with_reducible repeat first|refine zl_ ?_ _|refine zr_ ?_|refine zk_ ?_ _);refine blk_put (cs:=#[.int .i64 a0_0,.int .i64 0,.string (⟨#[]⟩ : ByteArray),.slice none 0 0]) ?_ 1 _ rfl;(with_reducible repeat first|refine zl_ ?_ _|refine zr_ ?_|refine zk_ ?_ _);refine blk_put (cs:=#[.int .i64 0,.int .i64 0,.string (⟨#[]⟩ : ByteArray),.slice none 0 0]) ?_ 0 _ rfl;(with_reducible repeat first|refine zl_ ?_ _|refine zr_ ?_|refine zk_ ?_ _);refine blk_far ?_ NB162_163.out _;(with_reducible repeat first|refine zl_ ?_ _|refine zr_ ?_|refine zk_ ?_ _);exact BK162.out) Try.underlying131 rfl (by kernel_rfl)) rfl ?_
 exact ⟨_,by first|rfl|(simp [errW_none,errW_some] <;> rfl)|(simp [*,errW_none,errW_some] <;> rfl),by (with_reducible repeat (first|apply Kd.R_alloc|apply Kd.R_drewN|apply Kd.R_drew));exact Kd.R_mono (Kd.R_far (p:=⟨gb162,3,none⟩) (Kd.R_far (p:=⟨gb162,2,none⟩) (Kd.R_far (p:=⟨gb162,1,none⟩) (Kd.R_far (p:=⟨gb162,0,none⟩) (Kd.R_far (p:=⟨gb163,3,none⟩) (Kd.R_types (Kd.R_types HO166.out BK163.out (by decide)) BK162.out (by decide)) (fun _ hk => hk.1.2) (.slice Ao12 t164.length co12)) (fun _ hk => hk.2) (.int .i64 a0_0)) (fun _ hk => hk.2) (.int .i64 a0_1)) (fun _ hk => hk.2) (.string a0_2)) (fun _ hk => hk.2) (.slice Ao12 t164.length co12)) (fun _ hk => trivial),by repeat (first|(with_reducible first|exact HB.out|apply za_|apply zn_|apply zd_|refine zs_ ?_ GE161.out|refine zs_ ?_ GE162.out|refine zs_ ?_ GE163.out)|exact HB.out)⟩

end Go.Proofs.Ytkbgmojomgelbaa.MFnExactTreeText
