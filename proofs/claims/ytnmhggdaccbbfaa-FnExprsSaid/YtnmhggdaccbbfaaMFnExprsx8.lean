import Derived.Test.YtnmhggdaccbbfaaMFnExprsx0
import Derived.Test.YtnmhggdaccbbfaaMFnExprsx4
import Derived.Test.YtnmhggdaccbbfaaMFnExprsx5
import Derived.Test.YtnmhggdaccbbfaaMFnExprsx6
namespace Go.Proofs.Ytnmhggdaccbbfaa.MFnExprs
open Go.RowKit Go.Proofs.YtnmhggdaccbbfaaW.PrintWords Go.Proofs.YtnmhggdaccbbfaaW.PrintLast Go.Proofs.YtnmhggdaccbbfaaW.PrintMore
attribute [local go_sem] max2_int min2_int max_two min_two max_three min_three max_four min_four
set_option linter.unusedVariables false
set_option linter.unusedSimpArgs false
theorem zt8_4 {p : Prop} (h : p := by rw [hg];exact Nat.ne_of_gt (blk_lt (g:=gb296) (o:=.cells #[.slice (some ad298) l0_0.length c0_0] 28 (0,0)) zt8_2)) : p := h
theorem zt8_3 {p : Prop} (h : p := by rw [hg];exact Nat.ne_of_lt (blk_lt (g:=gb296) (o:=.cells #[.slice (some ad298) l0_0.length c0_0] 28 (0,0)) zt8_2)) : p := h
theorem zt8_2 {p : Prop} (h : p := by (with_reducible repeat first|refine zl_ ?_ _|refine zr_ ?_|refine zk_ ?_ _);exact BK296.out) : p := h
theorem zt8_1 {p : Prop} (h : p := by repeat (first|(with_reducible first|exact HB.out|apply za_|apply zn_|apply zd_|refine zs_ ?_ GE296.out)|exact HB.out)) : p := h

mutual
def spec_ExprOk.l0 : Nat → Int → List (S34) → Option (Bool)
 |0,_,_ => none
 |k + 1,x3,x297000 => if x3 < (x297000.length : Int) then (if 0 ≤ x3 then ((spec_l01In.f ((rd_T34 x297000 x3).f0) 1 11).bind fun t300 => (if t300 = true then ((spec_l04Kids.f k ((rd_T34 x297000 x3).f0)).bind fun t301 => (spec_ExprOk.j1 k x3 ((((rd_T34 x297000 x3).f3).length : Int) != t301) x297000 ((rd_T34 x297000 x3).f0) ((rd_T34 x297000 x3).f1) ((rd_T34 x297000 x3).f2) ((rd_T34 x297000 x3).f3))) else (spec_ExprOk.j1 k x3 true x297000 ((rd_T34 x297000 x3).f0) ((rd_T34 x297000 x3).f1) ((rd_T34 x297000 x3).f2) ((rd_T34 x297000 x3).f3)))) else (none)) else ((spec_l01In.f (x297000.length : Int) 1 20).bind fun t297 => (some t297))
def spec_ExprOk.j1 : Nat → Int → Bool → List (S34) → Int → Int → ByteArray → List Int → Option (Bool)
 |0,_,_,_,_,_,_,_ => none
 |k + 1,x3,x30,x297000,x300000,x300001,x300002,x300003 => if x30 = true then (some false) else (if x300000 = 1 then ((spec_l01In.f x300001 0 99).bind fun t302 => (if t302 = true then (if x300000 = 2 then ((spec_VarName.f k x300002).bind fun t303 => (if t303 = true then (spec_ExprOk.j2 k x3 false x297000 x300000 x300001 x300002 x300003) else (spec_ExprOk.j2 k x3 true x297000 x300000 x300001 x300002 x300003))) else (spec_ExprOk.j2 k x3 (x300002.toList != ([] : List UInt8)) x297000 x300000 x300001 x300002 x300003)) else (spec_ExprOk.j2 k x3 true x297000 x300000 x300001 x300002 x300003))) else (if x300001 = 0 then (if x300000 = 2 then ((spec_VarName.f k x300002).bind fun t304 => (if t304 = true then (spec_ExprOk.j2 k x3 false x297000 x300000 x300001 x300002 x300003) else (spec_ExprOk.j2 k x3 true x297000 x300000 x300001 x300002 x300003))) else (spec_ExprOk.j2 k x3 (x300002.toList != ([] : List UInt8)) x297000 x300000 x300001 x300002 x300003)) else (spec_ExprOk.j2 k x3 true x297000 x300000 x300001 x300002 x300003)))
def spec_ExprOk.j2 : Nat → Int → Bool → List (S34) → Int → Int → ByteArray → List Int → Option (Bool)
 |0,_,_,_,_,_,_,_ => none
 |k + 1,x3,x70,x297000,x300000,x300001,x300002,x300003 => if x70 = true then (some false) else (spec_ExprOk.l1 k x3 0 x297000 x300000 x300001 x300002 x300003)
def spec_ExprOk.l1 : Nat → Int → Int → List (S34) → Int → Int → ByteArray → List Int → Option (Bool)
 |0,_,_,_,_,_,_,_ => none
 |k + 1,x3,x5,x297000,x300000,x300001,x300002,x300003 => if x5 < (x300003.length : Int) then (if 0 ≤ x5 then ((spec_l01In.f (rd x300003 x5) 0 (wrap64 (x3 - 1))).bind fun t306 => (if t306 = true then (spec_ExprOk.l1 k x3 (wrap64 (x5 + 1)) x297000 x300000 x300001 x300002 x300003) else (some false))) else (none)) else (spec_ExprOk.l0 k (wrap64 (x3 + 1)) x297000)
end
def spec_ExprOk.f (k : Nat) (l0_0 : List (S34)) : Option (Bool):=spec_ExprOk.l0 k 0 l0_0
theorem spec_ExprOk.mono_l : ∀ k,(∀ y0 y1,LeO (spec_ExprOk.l0 k y0 y1) (spec_ExprOk.l0 (k + 1) y0 y1)) ∧ (∀ y0 y1 y2 y3 y4 y5 y6,LeO (spec_ExprOk.j1 k y0 y1 y2 y3 y4 y5 y6) (spec_ExprOk.j1 (k + 1) y0 y1 y2 y3 y4 y5 y6)) ∧ (∀ y0 y1 y2 y3 y4 y5 y6,LeO (spec_ExprOk.j2 k y0 y1 y2 y3 y4 y5 y6) (spec_ExprOk.j2 (k + 1) y0 y1 y2 y3 y4 y5 y6)) ∧ (∀ y0 y1 y2 y3 y4 y5 y6,LeO (spec_ExprOk.l1 k y0 y1 y2 y3 y4 y5 y6) (spec_ExprOk.l1 (k + 1) y0 y1 y2 y3 y4 y5 y6))
 |0 => ⟨fun _ _ r h => by simp [spec_ExprOk.l0] at h,fun _ _ _ _ _ _ _ r h => by simp [spec_ExprOk.j1] at h,fun _ _ _ _ _ _ _ r h => by simp [spec_ExprOk.j2] at h,fun _ _ _ _ _ _ _ r h => by simp [spec_ExprOk.l1] at h⟩
 |k + 1 => by
  obtain ⟨ih0,ih1,ih2,ih3⟩:=spec_ExprOk.mono_l k
  refine ⟨?_,?_,?_,?_⟩
  ·intro y0 y1
   unfold spec_ExprOk.l0
   repeat' first
   |(with_reducible exact ih0 _ _)
   |(with_reducible exact ih1 _ _ _ _ _ _ _)
   |(with_reducible exact ih2 _ _ _ _ _ _ _)
   |(with_reducible exact ih3 _ _ _ _ _ _ _)
   |(with_reducible exact spec_VarName.mono _ _)
   |(with_reducible exact spec_l04Kids.mono _ _)
   |(with_reducible exact LeO.refl _)
   |(with_reducible exact LeO.none _)
   |(with_reducible refine LeO.ite ?_ ?_)
   |(with_reducible refine LeO.bind ?_ (fun _ => ?_))
  ·intro y0 y1 y2 y3 y4 y5 y6
   unfold spec_ExprOk.j1
   repeat' first
   |(with_reducible exact ih0 _ _)
   |(with_reducible exact ih1 _ _ _ _ _ _ _)
   |(with_reducible exact ih2 _ _ _ _ _ _ _)
   |(with_reducible exact ih3 _ _ _ _ _ _ _)
   |(with_reducible exact spec_VarName.mono _ _)
   |(with_reducible exact spec_l04Kids.mono _ _)
   |(with_reducible exact LeO.refl _)
   |(with_reducible exact LeO.none _)
   |(with_reducible refine LeO.ite ?_ ?_)
   |(with_reducible refine LeO.bind ?_ (fun _ => ?_))
  ·intro y0 y1 y2 y3 y4 y5 y6
   unfold spec_ExprOk.j2
   repeat' first
   |(with_reducible exact ih0 _ _)
   |(with_reducible exact ih1 _ _ _ _ _ _ _)
   |(with_reducible exact ih2 _ _ _ _ _ _ _)
   |(with_reducible exact ih3 _ _ _ _ _ _ _)
   |(with_reducible exact spec_VarName.mono _ _)
   |(with_reducible exact spec_l04Kids.mono _ _)
   |(with_reducible exact LeO.refl _)
   |(with_reducible exact LeO.none _)
   |(with_reducible refine LeO.ite ?_ ?_)
   |(with_reducible refine LeO.bind ?_ (fun _ => ?_))
  ·intro y0 y1 y2 y3 y4 y5 y6
   unfold spec_ExprOk.l1
   repeat' first
   |(with_reducible exact ih0 _ _)
   |(with_reducible exact ih1 _ _ _ _ _ _ _)
   |(with_reducible exact ih2 _ _ _ _ _ _ _)
   |(with_reducible exact ih3 _ _ _ _ _ _ _)
   |(with_reducible exact spec_VarName.mono _ _)
   |(with_reducible exact spec_l04Kids.mono _ _)
   |(with_reducible exact LeO.refl _)
   |(with_reducible exact LeO.none _)
   |(with_reducible refine LeO.ite ?_ ?_)
   |(with_reducible refine LeO.bind ?_ (fun _ => ?_))
theorem spec_ExprOk.mono : ∀ a0 k,LeO (spec_ExprOk.f k a0) (spec_ExprOk.f (k + 1) a0):=by
 intro a0 k
 obtain ⟨ih0,ih1,ih2,ih3⟩:=spec_ExprOk.mono_l k
 unfold spec_ExprOk.f
 repeat' first
   |(with_reducible exact ih0 _ _)
   |(with_reducible exact ih1 _ _ _ _ _ _ _)
   |(with_reducible exact ih2 _ _ _ _ _ _ _)
   |(with_reducible exact ih3 _ _ _ _ _ _ _)
   |(with_reducible exact spec_VarName.mono _ _)
   |(with_reducible exact spec_l04Kids.mono _ _)
   |(with_reducible exact LeO.refl _)
   |(with_reducible exact LeO.none _)
   |(with_reducible refine LeO.ite ?_ ?_)
   |(with_reducible refine LeO.bind ?_ (fun _ => ?_))
set_option maxHeartbeats 8000000 in
set_option maxRecDepth 100000 in
theorem spec_ExprOk.calls (k : Nat) (A0_0 : Option Addr) (c0_0 : Nat) (l0_0 : List (S34)) (r : Bool) (w : World) (hr0_0 : Kd.C k34 w A0_0 l0_0.length l0_0) (hc0_0 : l0_0.length ≤ c0_0) (h : spec_ExprOk.f k l0_0 = some r) :
  Calls Try.prog 15 #[.agg #[.slice A0_0 l0_0.length c0_0]] w fun e w' => e = .returned (.bool r) ∧ Below w.heap.size w w':=by
 have hu28:=Try.underlying28
 have hu34:=Try.underlying34
 have HR0_0:=zm_ hr0_0
 have HC0_0:=zm_ hc0_0
 clear hr0_0 hc0_0
 have HB:=zm_ (Below.refl w.heap.size w)
 have H : (spec_ExprOk.l0 k 0 l0_0) = some r:=h
 clear h
 have H':=zm_ H
 clear H
 go_enter Try.func15,Try.ntmps15
 go_wp2_with (first|((with_reducible refine gate_dst (N:=1) rfl ?_);(try (refine gate_guard (by rfl) ?_;dsimp only));refine box_event ?hg (N:=1) ?hd (cs:=#[.slice A0_0 l0_0.length c0_0]) (t:=28) ?hr ?_;(case hd => rfl);(case hg => rfl);(case hr => first|(go_simp;done)|(go_simp;rfl));intro gb296 hg w2 hbox hb;have n0_:=zm_ (below_step zB_ hb);have n1_:=zm_ (hbox);have n2_:=zm_ ((by rw [hg];exact (below_size zB_) : w.heap.size ≤ gb296));have n3_:=zm_ ((by rw [hg];exact (below_size zB_) : w.heap.size ≤ gb296));clear HB;have HB:=n0_;have BK296:=n1_;have GW296:=n2_;have GE296:=n3_;clear n0_ n1_ n2_ n3_;clear hb hbox hg))
 repeat (go_quiet (first|((with_reducible refine gate_dst (N:=1) rfl ?_);(try (refine gate_guard (by rfl) ?_;dsimp only));refine box_event ?hg (N:=1) ?hd (cs:=#[.slice A0_0 l0_0.length c0_0]) (t:=28) ?hr ?_;(case hd => rfl);(case hg => rfl);(case hr => first|(go_simp;done)|(go_simp;rfl));intro gb296 hg w2 hbox hb;have n0_:=zm_ (below_step zB_ hb);have n1_:=zm_ (hbox);have n2_:=zm_ ((by rw [hg];exact (below_size zB_) : w.heap.size ≤ gb296));have n3_:=zm_ ((by rw [hg];exact (below_size zB_) : w.heap.size ≤ gb296));clear HB;have HB:=n0_;have BK296:=n1_;have GW296:=n2_;have GE296:=n3_;clear n0_ n1_ n2_ n3_;clear hb hbox hg));try go_wp2_with (first|((with_reducible refine gate_dst (N:=1) rfl ?_);(try (refine gate_guard (by rfl) ?_;dsimp only));refine box_event ?hg (N:=1) ?hd (cs:=#[.slice A0_0 l0_0.length c0_0]) (t:=28) ?hr ?_;(case hd => rfl);(case hg => rfl);(case hr => first|(go_simp;done)|(go_simp;rfl));intro gb296 hg w2 hbox hb;have n0_:=zm_ (below_step zB_ hb);have n1_:=zm_ (hbox);have n2_:=zm_ ((by rw [hg];exact (below_size zB_) : w.heap.size ≤ gb296));have n3_:=zm_ ((by rw [hg];exact (below_size zB_) : w.heap.size ≤ gb296));clear HB;have HB:=n0_;have BK296:=n1_;have GW296:=n2_;have GE296:=n3_;clear n0_ n1_ n2_ n3_;clear hb hbox hg)))
 go_loopg [3] k (fun kq v3 w' => ∃ (x3_1 : Int),v3 = .int .i64 x3_1 ∧ Aside0 (spec_ExprOk.l0 kq x3_1 l0_0 = some r) ∧ Aside0 (kq ≤ k) ∧ Aside0 (w'.heap[gb296]? = some (.cells #[(.slice A0_0 l0_0.length c0_0)] 28 (0,0))) ∧ Aside0 (Below w.heap.size w w'))
 case atStart => exact ⟨(0),zV_,H',⟨Nat.le_refl _⟩,⟨by (with_reducible repeat first|refine zl_ ?_ _|refine zr_ ?_|refine zk_ ?_ _);exact BK296.out⟩,⟨by repeat (first|(with_reducible first|exact HB.out|apply za_|apply zn_|apply zd_|refine zs_ ?_ GE296.out)|exact HB.out)⟩⟩
 case round =>
  clear H'
  try clear c1
  try clear p2
  obtain ⟨x3_1,rfl,HA,HK1,BK296,HB⟩:=hrel
  cases gk with
  |zero => exact absurd HA.out (by simp [spec_ExprOk.l0])
  |succ k1 =>
   have H:=HA.out
   clear HA
   simp only [spec_ExprOk.l0] at H
   by_cases c3 : x3_1 < (l0_0.length : Int)
   ·rw [if_pos c3] at H
    have c3b0 : decide (x3_1 < (l0_0.length : Int)) = true:=decide_eq_true c3
    clear c3
    by_cases c4 : 0 ≤ x3_1
    ·rw [if_pos c4] at H
     have c4b0 : decide (0 ≤ x3_1) = true:=decide_eq_true c4
     clear c4
     have HC5:=zm_ H
     clear H
     have hcz6_0 : wr.cell? ⟨gb296,0,none⟩ = some (.slice A0_0 l0_0.length c0_0):=(zc_ BK296.out 0).trans rfl
     have hfz6_0:=zf_ BK296.out 0
     have p298 : 0 ≤ (x3_1 : Int):=zo_
     have q298 : x3_1 < (l0_0.length : Int):=zo_
     obtain ⟨ad298,A298_3,c298_3,e298,hx298_0,hx298_1,hx298_2,hx298_3,hl298_3,hi298_3⟩:=at_T34 HR0_0.out x3_1 p298 q298
     cases e298
     replace hx298_0:=(HB.out.cell (zb_ w _ hx298_0)).trans hx298_0
     replace hx298_1:=(HB.out.cell (zb_ w _ hx298_1)).trans hx298_1
     replace hx298_2:=(HB.out.cell (zb_ w _ hx298_2)).trans hx298_2
     replace hx298_3:=(HB.out.cell (zb_ w _ hx298_3)).trans hx298_3
     have HR298_3:=zm_ hi298_3
     have HC298_3:=zm_ hl298_3
     clear hi298_3 hl298_3
     replace p298:=eq_true p298
     replace q298:=eq_true q298
     go_upto_region 5 with (first|((with_reducible refine gate_dst (N:=4) rfl ?_);(try (refine gate_guard (by rfl) ?_;dsimp only));refine box_event ?hg (N:=4) ?hd (cs:=#[.int .i64 0,.int .i64 0,.string (⟨#[]⟩ : ByteArray),.slice none 0 0]) (t:=34) ?hr ?_;(case hd => rfl);(case hg => rfl);(case hr => first|(go_simp;done)|(go_simp;rfl));intro gb299 hg w7 hbox hb;have n0_:=zm_ (blk_below (g:=gb296) (o:=.cells #[.slice (some ad298) l0_0.length c0_0] 28 (0,0)) zt8_2 hb);have n1_:=zm_ (below_step zt8_1 hb);have n2_:=zm_ (hbox);have n3_:=zm_ ((by rw [hg];exact (below_size zt8_1) : w.heap.size ≤ gb299));have n4_:=zm_ ((by rw [hg];exact (below_size zt8_1) : w.heap.size ≤ gb299));have n5_:=zm_ ((zt8_3 : gb296 ≠ gb299));have n6_:=zm_ ((zt8_4 : gb299 ≠ gb296));clear BK296;clear HB;have BK296:=n0_;have HB:=n1_;have BK299:=n2_;have GW299:=n3_;have GE299:=n4_;have NB296_299:=n5_;have NB299_296:=n6_;clear n0_ n1_ n2_ n3_ n4_ n5_ n6_;clear hb hbox hg;have hnb8:=NB299_296.out;have hnc8:=NB296_299.out;have hcz9_0 : w7.cell? ⟨gb299,0,none⟩ = some (.int .i64 0):=(zc_ BK299.out 0).trans rfl;have hcz9_1 : w7.cell? ⟨gb299,1,none⟩ = some (.int .i64 0):=(zc_ BK299.out 1).trans rfl;have hcz9_2 : w7.cell? ⟨gb299,2,none⟩ = some (.string (⟨#[]⟩ : ByteArray)):=(zc_ BK299.out 2).trans rfl;have hcz9_3 : w7.cell? ⟨gb299,3,none⟩ = some (.slice none 0 0):=(zc_ BK299.out 3).trans rfl;have hfz9_0:=zf_ BK299.out 0;have hfz9_1:=zf_ BK299.out 1;have hfz9_2:=zf_ BK299.out 2;have hfz9_3:=zf_ BK299.out 3))
     repeat (go_quiet (first|((with_reducible refine gate_dst (N:=4) rfl ?_);(try (refine gate_guard (by rfl) ?_;dsimp only));refine box_event ?hg (N:=4) ?hd (cs:=#[.int .i64 0,.int .i64 0,.string (⟨#[]⟩ : ByteArray),.slice none 0 0]) (t:=34) ?hr ?_;(case hd => rfl);(case hg => rfl);(case hr => first|(go_simp;done)|(go_simp;rfl));intro gb299 hg w7 hbox hb;have n0_:=zm_ (blk_below (g:=gb296) (o:=.cells #[.slice (some ad298) l0_0.length c0_0] 28 (0,0)) zt8_2 hb);have n1_:=zm_ (below_step zt8_1 hb);have n2_:=zm_ (hbox);have n3_:=zm_ ((by rw [hg];exact (below_size zt8_1) : w.heap.size ≤ gb299));have n4_:=zm_ ((by rw [hg];exact (below_size zt8_1) : w.heap.size ≤ gb299));have n5_:=zm_ ((zt8_3 : gb296 ≠ gb299));have n6_:=zm_ ((zt8_4 : gb299 ≠ gb296));clear BK296;clear HB;have BK296:=n0_;have HB:=n1_;have BK299:=n2_;have GW299:=n3_;have GE299:=n4_;have NB296_299:=n5_;have NB299_296:=n6_;clear n0_ n1_ n2_ n3_ n4_ n5_ n6_;clear hb hbox hg;have hnb8:=NB299_296.out;have hnc8:=NB296_299.out;have hcz9_0 : w7.cell? ⟨gb299,0,none⟩ = some (.int .i64 0):=(zc_ BK299.out 0).trans rfl;have hcz9_1 : w7.cell? ⟨gb299,1,none⟩ = some (.int .i64 0):=(zc_ BK299.out 1).trans rfl;have hcz9_2 : w7.cell? ⟨gb299,2,none⟩ = some (.string (⟨#[]⟩ : ByteArray)):=(zc_ BK299.out 2).trans rfl;have hcz9_3 : w7.cell? ⟨gb299,3,none⟩ = some (.slice none 0 0):=(zc_ BK299.out 3).trans rfl;have hfz9_0:=zf_ BK299.out 0;have hfz9_1:=zf_ BK299.out 1;have hfz9_2:=zf_ BK299.out 2;have hfz9_3:=zf_ BK299.out 3));go_upto_region 5 with (first|((with_reducible refine gate_dst (N:=4) rfl ?_);(try (refine gate_guard (by rfl) ?_;dsimp only));refine box_event ?hg (N:=4) ?hd (cs:=#[.int .i64 0,.int .i64 0,.string (⟨#[]⟩ : ByteArray),.slice none 0 0]) (t:=34) ?hr ?_;(case hd => rfl);(case hg => rfl);(case hr => first|(go_simp;done)|(go_simp;rfl));intro gb299 hg w7 hbox hb;have n0_:=zm_ (blk_below (g:=gb296) (o:=.cells #[.slice (some ad298) l0_0.length c0_0] 28 (0,0)) zt8_2 hb);have n1_:=zm_ (below_step zt8_1 hb);have n2_:=zm_ (hbox);have n3_:=zm_ ((by rw [hg];exact (below_size zt8_1) : w.heap.size ≤ gb299));have n4_:=zm_ ((by rw [hg];exact (below_size zt8_1) : w.heap.size ≤ gb299));have n5_:=zm_ ((zt8_3 : gb296 ≠ gb299));have n6_:=zm_ ((zt8_4 : gb299 ≠ gb296));clear BK296;clear HB;have BK296:=n0_;have HB:=n1_;have BK299:=n2_;have GW299:=n3_;have GE299:=n4_;have NB296_299:=n5_;have NB299_296:=n6_;clear n0_ n1_ n2_ n3_ n4_ n5_ n6_;clear hb hbox hg;have hnb8:=NB299_296.out;have hnc8:=NB296_299.out;have hcz9_0 : w7.cell? ⟨gb299,0,none⟩ = some (.int .i64 0):=(zc_ BK299.out 0).trans rfl;have hcz9_1 : w7.cell? ⟨gb299,1,none⟩ = some (.int .i64 0):=(zc_ BK299.out 1).trans rfl;have hcz9_2 : w7.cell? ⟨gb299,2,none⟩ = some (.string (⟨#[]⟩ : ByteArray)):=(zc_ BK299.out 2).trans rfl;have hcz9_3 : w7.cell? ⟨gb299,3,none⟩ = some (.slice none 0 0):=(zc_ BK299.out 3).trans rfl;have hfz9_0:=zf_ BK299.out 0;have hfz9_1:=zf_ BK299.out 1;have hfz9_2:=zf_ BK299.out 2;have hfz9_3:=zf_ BK299.out 3)))
     (try simp only [Act.put,List.setIfInBounds_toArray,List.set_cons_zero,List.set_cons_succ])
     go_cut [30] (fun v30 wc => ∃ (kq : Nat) (x30_4 : Bool),v30 = .bool x30_4 ∧ Aside0 (spec_ExprOk.j1 kq x3_1 x30_4 l0_0 ((rd_T34 l0_0 x3_1).f0) ((rd_T34 l0_0 x3_1).f1) ((rd_T34 l0_0 x3_1).f2) ((rd_T34 l0_0 x3_1).f3) = some r) ∧ Aside0 (kq ≤ k1) ∧ Aside0 (wc.heap[gb296]? = some (.cells #[(.slice (some ad298) l0_0.length c0_0)] 28 (0,0))) ∧ Aside0 (wc.heap[gb299]? = some (.cells #[.int .i64 ((rd_T34 l0_0 x3_1).f0),.int .i64 ((rd_T34 l0_0 x3_1).f1),.string ((rd_T34 l0_0 x3_1).f2),(.slice A298_3 ((rd_T34 l0_0 x3_1).f3).length c298_3)] 34 (0,0))) ∧ Aside0 (Below w.heap.size w wc))
     case first =>
      have H:=HC5.out
      clear HC5
      replace H:=Option.bind_eq_some_iff.mp H
      obtain ⟨t300,A100,H⟩:=H
      replace H : (if t300 = true then ((spec_l04Kids.f k1 ((rd_T34 l0_0 x3_1).f0)).bind fun t301 => (spec_ExprOk.j1 k1 x3_1 ((((rd_T34 l0_0 x3_1).f3).length : Int) != t301) l0_0 ((rd_T34 l0_0 x3_1).f0) ((rd_T34 l0_0 x3_1).f1) ((rd_T34 l0_0 x3_1).f2) ((rd_T34 l0_0 x3_1).f3))) else (spec_ExprOk.j1 k1 x3_1 true l0_0 ((rd_T34 l0_0 x3_1).f0) ((rd_T34 l0_0 x3_1).f1) ((rd_T34 l0_0 x3_1).f2) ((rd_T34 l0_0 x3_1).f3))) = some r:=H
      have A10:=zm_ A100
      clear A100
      by_cases c11 : t300 = true
      ·subst c11
       have H1 : ((spec_l04Kids.f k1 ((rd_T34 l0_0 x3_1).f0)).bind fun t301 => (spec_ExprOk.j1 k1 x3_1 ((((rd_T34 l0_0 x3_1).f3).length : Int) != t301) l0_0 ((rd_T34 l0_0 x3_1).f0) ((rd_T34 l0_0 x3_1).f1) ((rd_T34 l0_0 x3_1).f2) ((rd_T34 l0_0 x3_1).f3))) = some r:=by rw [if_pos rfl] at H;exact H
       clear H
       have H:=H1
       clear H1
       replace H:=Option.bind_eq_some_iff.mp H
       obtain ⟨t301,A120,H⟩:=H
       replace H : (spec_ExprOk.j1 k1 x3_1 ((((rd_T34 l0_0 x3_1).f3).length : Int) != t301) l0_0 ((rd_T34 l0_0 x3_1).f0) ((rd_T34 l0_0 x3_1).f1) ((rd_T34 l0_0 x3_1).f2) ((rd_T34 l0_0 x3_1).f3)) = some r:=H
       have A12:=zm_ A120
       clear A120
       have H':=zm_ H
       clear H
       have hnb13:=NB299_296.out
       have hnc13:=NB296_299.out
       have hcz14_0 : w7.cell? ⟨gb299,0,none⟩ = some (.int .i64 0):=(zc_ BK299.out 0).trans rfl
       have hcz14_1 : w7.cell? ⟨gb299,1,none⟩ = some (.int .i64 0):=(zc_ BK299.out 1).trans rfl
       have hcz14_2 : w7.cell? ⟨gb299,2,none⟩ = some (.string (⟨#[]⟩ : ByteArray)):=(zc_ BK299.out 2).trans rfl
       have hcz14_3 : w7.cell? ⟨gb299,3,none⟩ = some (.slice none 0 0):=(zc_ BK299.out 3).trans rfl
       have hfz14_0:=zf_ BK299.out 0
       have hfz14_1:=zf_ BK299.out 1
       have hfz14_2:=zf_ BK299.out 2
       have hfz14_3:=zf_ BK299.out 3
       go_wp2_with (first|(go_at_call 50;(with_reducible refine (spec_l01In.calls ((rd_T34 l0_0 x3_1).f0) 1 11 true _ A10.out).mono ?_);rintro e w' ⟨rfl,⟨nd,rfl⟩⟩;(try first|exact ⟨rfl,_,zw_ _ _ _⟩|exact ⟨rfl,_,Eq.trans (zw_ _ _ _) (congrArg (World.drewN _) (Nat.add_assoc _ _ _))⟩))|(go_at_call 51;(with_reducible refine (spec_l04Kids.calls k1 ((rd_T34 l0_0 x3_1).f0) t301 _ A12.out).mono ?_);rintro e w' ⟨rfl,⟨nd,rfl⟩⟩;(try first|exact ⟨rfl,_,zw_ _ _ _⟩|exact ⟨rfl,_,Eq.trans (zw_ _ _ _) (congrArg (World.drewN _) (Nat.add_assoc _ _ _))⟩)))
       repeat (go_quiet (first|(go_at_call 50;(with_reducible refine (spec_l01In.calls ((rd_T34 l0_0 x3_1).f0) 1 11 true _ A10.out).mono ?_);rintro e w' ⟨rfl,⟨nd,rfl⟩⟩;(try first|exact ⟨rfl,_,zw_ _ _ _⟩|exact ⟨rfl,_,Eq.trans (zw_ _ _ _) (congrArg (World.drewN _) (Nat.add_assoc _ _ _))⟩))|(go_at_call 51;(with_reducible refine (spec_l04Kids.calls k1 ((rd_T34 l0_0 x3_1).f0) t301 _ A12.out).mono ?_);rintro e w' ⟨rfl,⟨nd,rfl⟩⟩;(try first|exact ⟨rfl,_,zw_ _ _ _⟩|exact ⟨rfl,_,Eq.trans (zw_ _ _ _) (congrArg (World.drewN _) (Nat.add_assoc _ _ _))⟩)));try go_wp2_with (first|(go_at_call 50;(with_reducible refine (spec_l01In.calls ((rd_T34 l0_0 x3_1).f0) 1 11 true _ A10.out).mono ?_);rintro e w' ⟨rfl,⟨nd,rfl⟩⟩;(try first|exact ⟨rfl,_,zw_ _ _ _⟩|exact ⟨rfl,_,Eq.trans (zw_ _ _ _) (congrArg (World.drewN _) (Nat.add_assoc _ _ _))⟩))|(go_at_call 51;(with_reducible refine (spec_l04Kids.calls k1 ((rd_T34 l0_0 x3_1).f0) t301 _ A12.out).mono ?_);rintro e w' ⟨rfl,⟨nd,rfl⟩⟩;(try first|exact ⟨rfl,_,zw_ _ _ _⟩|exact ⟨rfl,_,Eq.trans (zw_ _ _ _) (congrArg (World.drewN _) (Nat.add_assoc _ _ _))⟩))))
       go_meet
       case rel => exact ⟨_,(((((rd_T34 l0_0 x3_1).f3).length : Int) != t301)),zV_,H',⟨by have:=HK1.out;first|omega|exact Nat.le_refl _⟩,⟨by (with_reducible repeat first|refine zl_ ?_ _|refine zr_ ?_|refine zk_ ?_ _);refine blk_far ?_ NB296_299.out _;(with_reducible repeat first|refine zl_ ?_ _|refine zr_ ?_|refine zk_ ?_ _);refine blk_far ?_ NB296_299.out _;(with_reducible repeat first|refine zl_ ?_ _|refine zr_ ?_|refine zk_ ?_ _);refine blk_far ?_ NB296_299.out _;(with_reducible repeat first|refine zl_ ?_ _|refine zr_ ?_|refine zk_ ?_ _);refine blk_far ?_ NB296_299.out _;(with_reducible repeat first|refine zl_ ?_ _|refine zr_ ?_|refine zk_ ?_ _);exact BK296.out⟩,⟨by (with_reducible repeat first|refine zl_ ?_ _|refine zr_ ?_|refine zk_ ?_ _);refine blk_put (cs:=#[.int .i64 ((rd_T34 l0_0 x3_1).f0),.int .i64 ((rd_T34 l0_0 x3_1).f1),.string ((rd_T34 l0_0 x3_1).f2),.slice none 0 0]) ?_ 3 _ rfl;(with_reducible repeat first|refine zl_ ?_ _|refine zr_ ?_|refine zk_ ?_ _);refine blk_put (cs:=#[.int .i64 ((rd_T34 l0_0 x3_1).f0),.int .i64 ((rd_T34 l0_0 x3_1).f1),.string (⟨#[]⟩ : ByteArray),.slice none 0 0]) ?_ 2 _ rfl;(with_reducible repeat first|refine zl_ ?_ _|refine zr_ ?_|refine zk_ ?_ _);refine blk_put (cs:=#[.int .i64 ((rd_T34 l0_0 x3_1).f0),.int .i64 0,.string (⟨#[]⟩ : ByteArray),.slice none 0 0]) ?_ 1 _ rfl;(with_reducible repeat first|refine zl_ ?_ _|refine zr_ ?_|refine zk_ ?_ _);refine blk_put (cs:=#[.int .i64 0,.int .i64 0,.string (⟨#[]⟩ : ByteArray),.slice none 0 0]) ?_ 0 _ rfl;(with_reducible repeat first|refine zl_ ?_ _|refine zr_ ?_|refine zk_ ?_ _);exact BK299.out⟩,⟨by repeat (first|(with_reducible first|exact HB.out|apply za_|apply zn_|apply zd_|refine zs_ ?_ GE296.out|refine zs_ ?_ GE299.out)|exact HB.out)⟩⟩
      ·replace c11:=Bool.eq_false_iff.mpr c11
       subst c11
       have H1 : (spec_ExprOk.j1 k1 x3_1 true l0_0 ((rd_T34 l0_0 x3_1).f0) ((rd_T34 l0_0 x3_1).f1) ((rd_T34 l0_0 x3_1).f2) ((rd_T34 l0_0 x3_1).f3)) = some r:=by rw [if_neg (show ¬ (false = true) by decide)] at H;exact H
       clear H
       have H:=H1
       clear H1
       have H':=zm_ H
       clear H
       have hnb15:=NB299_296.out
       have hnc15:=NB296_299.out
       have hcz16_0 : w7.cell? ⟨gb299,0,none⟩ = some (.int .i64 0):=(zc_ BK299.out 0).trans rfl
       have hcz16_1 : w7.cell? ⟨gb299,1,none⟩ = some (.int .i64 0):=(zc_ BK299.out 1).trans rfl
       have hcz16_2 : w7.cell? ⟨gb299,2,none⟩ = some (.string (⟨#[]⟩ : ByteArray)):=(zc_ BK299.out 2).trans rfl
       have hcz16_3 : w7.cell? ⟨gb299,3,none⟩ = some (.slice none 0 0):=(zc_ BK299.out 3).trans rfl
       have hfz16_0:=zf_ BK299.out 0
       have hfz16_1:=zf_ BK299.out 1
       have hfz16_2:=zf_ BK299.out 2
       have hfz16_3:=zf_ BK299.out 3
       go_wp2_with (first|(go_at_call 50;(with_reducible refine (spec_l01In.calls ((rd_T34 l0_0 x3_1).f0) 1 11 false _ A10.out).mono ?_);rintro e w' ⟨rfl,⟨nd,rfl⟩⟩;(try first|exact ⟨rfl,_,zw_ _ _ _⟩|exact ⟨rfl,_,Eq.trans (zw_ _ _ _) (congrArg (World.drewN _) (Nat.add_assoc _ _ _))⟩)))
       repeat (go_quiet (first|(go_at_call 50;(with_reducible refine (spec_l01In.calls ((rd_T34 l0_0 x3_1).f0) 1 11 false _ A10.out).mono ?_);rintro e w' ⟨rfl,⟨nd,rfl⟩⟩;(try first|exact ⟨rfl,_,zw_ _ _ _⟩|exact ⟨rfl,_,Eq.trans (zw_ _ _ _) (congrArg (World.drewN _) (Nat.add_assoc _ _ _))⟩)));try go_wp2_with (first|(go_at_call 50;(with_reducible refine (spec_l01In.calls ((rd_T34 l0_0 x3_1).f0) 1 11 false _ A10.out).mono ?_);rintro e w' ⟨rfl,⟨nd,rfl⟩⟩;(try first|exact ⟨rfl,_,zw_ _ _ _⟩|exact ⟨rfl,_,Eq.trans (zw_ _ _ _) (congrArg (World.drewN _) (Nat.add_assoc _ _ _))⟩))))
       go_meet
       case rel => exact ⟨_,(true),zV_,H',⟨by have:=HK1.out;first|omega|exact Nat.le_refl _⟩,⟨by (with_reducible repeat first|refine zl_ ?_ _|refine zr_ ?_|refine zk_ ?_ _);refine blk_far ?_ NB296_299.out _;(with_reducible repeat first|refine zl_ ?_ _|refine zr_ ?_|refine zk_ ?_ _);refine blk_far ?_ NB296_299.out _;(with_reducible repeat first|refine zl_ ?_ _|refine zr_ ?_|refine zk_ ?_ _);refine blk_far ?_ NB296_299.out _;(with_reducible repeat first|refine zl_ ?_ _|refine zr_ ?_|refine zk_ ?_ _);refine blk_far ?_ NB296_299.out _;(with_reducible repeat first|refine zl_ ?_ _|refine zr_ ?_|refine zk_ ?_ _);exact BK296.out⟩,⟨by (with_reducible repeat first|refine zl_ ?_ _|refine zr_ ?_|refine zk_ ?_ _);refine blk_put (cs:=#[.int .i64 ((rd_T34 l0_0 x3_1).f0),.int .i64 ((rd_T34 l0_0 x3_1).f1),.string ((rd_T34 l0_0 x3_1).f2),.slice none 0 0]) ?_ 3 _ rfl;(with_reducible repeat first|refine zl_ ?_ _|refine zr_ ?_|refine zk_ ?_ _);refine blk_put (cs:=#[.int .i64 ((rd_T34 l0_0 x3_1).f0),.int .i64 ((rd_T34 l0_0 x3_1).f1),.string (⟨#[]⟩ : ByteArray),.slice none 0 0]) ?_ 2 _ rfl;(with_reducible repeat first|refine zl_ ?_ _|refine zr_ ?_|refine zk_ ?_ _);refine blk_put (cs:=#[.int .i64 ((rd_T34 l0_0 x3_1).f0),.int .i64 0,.string (⟨#[]⟩ : ByteArray),.slice none 0 0]) ?_ 1 _ rfl;(with_reducible repeat first|refine zl_ ?_ _|refine zr_ ?_|refine zk_ ?_ _);refine blk_put (cs:=#[.int .i64 0,.int .i64 0,.string (⟨#[]⟩ : ByteArray),.slice none 0 0]) ?_ 0 _ rfl;(with_reducible repeat first|refine zl_ ?_ _|refine zr_ ?_|refine zk_ ?_ _);exact BK299.out⟩,⟨by repeat (first|(with_reducible first|exact HB.out|apply za_|apply zn_|apply zd_|refine zs_ ?_ GE296.out|refine zs_ ?_ GE299.out)|exact HB.out)⟩⟩
     case rest =>
      clear HC5
      try clear c1
      try clear c2
      try clear p2
      try clear q2
      try clear hx2
      try clear c3
      try clear c3b0
      try clear c4
      try clear c4b0
      try clear c8
      try clear c11
      try clear c13
      try clear c15
      try clear hcz14_0
      try clear hcz14_1
      try clear hcz14_2
      try clear hcz14_3
      try clear hcz16_0
      try clear hcz16_1
      try clear hcz16_2
      try clear hcz16_3
      try clear hcz6_0
      try clear hcz9_0
      try clear hcz9_1
      try clear hcz9_2
      try clear hcz9_3
      try clear hfz14_0
      try clear hfz14_1
      try clear hfz14_2
      try clear hfz14_3
      try clear hfz16_0
      try clear hfz16_1
      try clear hfz16_2
      try clear hfz16_3
      try clear hfz6_0
      try clear hfz9_0
      try clear hfz9_1
      try clear hfz9_2
      try clear hfz9_3
      try clear hx298_0
      try clear hx298_1
      try clear hx298_2
      try clear hx298_3
      try clear p2
      try clear p298
      try clear q298
      obtain ⟨kq,x30_4,rfl,HA,HJ4,BK296,BK299,HB⟩:=hcut
      cases kq with
      |zero => exact absurd HA.out (by simp [spec_ExprOk.j1])
      |succ kj4 =>
       have H:=HA.out
       clear HA
       simp only [spec_ExprOk.j1] at H
       by_cases c17 : x30_4 = true
       ·subst c17
        have H1 : (some false) = some r:=by rw [if_pos rfl] at H;exact H
        clear H
        have H:=H1
        clear H1
        obtain rfl:=Option.some.inj H
        go_wp2
        repeat (go_quiet (fail);try go_wp2)
        go_ret
        exact ⟨zE_,by repeat (first|(with_reducible first|exact HB.out|apply za_|apply zn_|apply zd_|refine zs_ ?_ GE296.out|refine zs_ ?_ GE299.out)|exact HB.out)⟩
       ·replace c17:=Bool.eq_false_iff.mpr c17
        subst c17
        have H1 : (if ((rd_T34 l0_0 x3_1).f0) = 1 then ((spec_l01In.f ((rd_T34 l0_0 x3_1).f1) 0 99).bind fun t302 => (if t302 = true then (if ((rd_T34 l0_0 x3_1).f0) = 2 then ((spec_VarName.f kj4 ((rd_T34 l0_0 x3_1).f2)).bind fun t303 => (if t303 = true then (spec_ExprOk.j2 kj4 x3_1 false l0_0 ((rd_T34 l0_0 x3_1).f0) ((rd_T34 l0_0 x3_1).f1) ((rd_T34 l0_0 x3_1).f2) ((rd_T34 l0_0 x3_1).f3)) else (spec_ExprOk.j2 kj4 x3_1 true l0_0 ((rd_T34 l0_0 x3_1).f0) ((rd_T34 l0_0 x3_1).f1) ((rd_T34 l0_0 x3_1).f2) ((rd_T34 l0_0 x3_1).f3)))) else (spec_ExprOk.j2 kj4 x3_1 (((rd_T34 l0_0 x3_1).f2).toList != ([] : List UInt8)) l0_0 ((rd_T34 l0_0 x3_1).f0) ((rd_T34 l0_0 x3_1).f1) ((rd_T34 l0_0 x3_1).f2) ((rd_T34 l0_0 x3_1).f3))) else (spec_ExprOk.j2 kj4 x3_1 true l0_0 ((rd_T34 l0_0 x3_1).f0) ((rd_T34 l0_0 x3_1).f1) ((rd_T34 l0_0 x3_1).f2) ((rd_T34 l0_0 x3_1).f3)))) else (if ((rd_T34 l0_0 x3_1).f1) = 0 then (if ((rd_T34 l0_0 x3_1).f0) = 2 then ((spec_VarName.f kj4 ((rd_T34 l0_0 x3_1).f2)).bind fun t304 => (if t304 = true then (spec_ExprOk.j2 kj4 x3_1 false l0_0 ((rd_T34 l0_0 x3_1).f0) ((rd_T34 l0_0 x3_1).f1) ((rd_T34 l0_0 x3_1).f2) ((rd_T34 l0_0 x3_1).f3)) else (spec_ExprOk.j2 kj4 x3_1 true l0_0 ((rd_T34 l0_0 x3_1).f0) ((rd_T34 l0_0 x3_1).f1) ((rd_T34 l0_0 x3_1).f2) ((rd_T34 l0_0 x3_1).f3)))) else (spec_ExprOk.j2 kj4 x3_1 (((rd_T34 l0_0 x3_1).f2).toList != ([] : List UInt8)) l0_0 ((rd_T34 l0_0 x3_1).f0) ((rd_T34 l0_0 x3_1).f1) ((rd_T34 l0_0 x3_1).f2) ((rd_T34 l0_0 x3_1).f3))) else (spec_ExprOk.j2 kj4 x3_1 true l0_0 ((rd_T34 l0_0 x3_1).f0) ((rd_T34 l0_0 x3_1).f1) ((rd_T34 l0_0 x3_1).f2) ((rd_T34 l0_0 x3_1).f3)))) = some r:=by rw [if_neg (show ¬ (false = true) by decide)] at H;exact H
        clear H
        have H:=H1
        clear H1
        have HC18:=zm_ H
        clear H
        go_upto_region 7 with (fail)
        repeat (go_quiet (fail);go_upto_region 7 with (fail))
        go_cut [70] (fun v70 wc => ∃ (kq : Nat) (x70_17 : Bool),v70 = .bool x70_17 ∧ Aside0 (spec_ExprOk.j2 kq x3_1 x70_17 l0_0 ((rd_T34 l0_0 x3_1).f0) ((rd_T34 l0_0 x3_1).f1) ((rd_T34 l0_0 x3_1).f2) ((rd_T34 l0_0 x3_1).f3) = some r) ∧ Aside0 (kq ≤ kj4) ∧ Aside0 (wc.heap[gb296]? = some (.cells #[(.slice (some ad298) l0_0.length c0_0)] 28 (0,0))) ∧ Aside0 (wc.heap[gb299]? = some (.cells #[.int .i64 ((rd_T34 l0_0 x3_1).f0),.int .i64 ((rd_T34 l0_0 x3_1).f1),.string ((rd_T34 l0_0 x3_1).f2),(.slice A298_3 ((rd_T34 l0_0 x3_1).f3).length c298_3)] 34 (0,0))) ∧ Aside0 (Below w.heap.size w wc))
        case first =>
         have H:=HC18.out
         clear HC18
         by_cases c19 : ((rd_T34 l0_0 x3_1).f0) = 1
         ·rw [if_pos c19] at H
          have c19b0 : (((rd_T34 l0_0 x3_1).f0) == 1) = true:=beq_iff_eq.mpr c19
          have c19b1 : (((rd_T34 l0_0 x3_1).f0) != 1) = false:=bne_eq_false_iff_eq.mpr c19
          clear c19
          (first|rw [c19b0]|(simp only [i64_w,i32_w];rw [c19b0])|skip)
          replace H:=Option.bind_eq_some_iff.mp H
          obtain ⟨t302,A200,H⟩:=H
          replace H : (if t302 = true then (if ((rd_T34 l0_0 x3_1).f0) = 2 then ((spec_VarName.f kj4 ((rd_T34 l0_0 x3_1).f2)).bind fun t303 => (if t303 = true then (spec_ExprOk.j2 kj4 x3_1 false l0_0 ((rd_T34 l0_0 x3_1).f0) ((rd_T34 l0_0 x3_1).f1) ((rd_T34 l0_0 x3_1).f2) ((rd_T34 l0_0 x3_1).f3)) else (spec_ExprOk.j2 kj4 x3_1 true l0_0 ((rd_T34 l0_0 x3_1).f0) ((rd_T34 l0_0 x3_1).f1) ((rd_T34 l0_0 x3_1).f2) ((rd_T34 l0_0 x3_1).f3)))) else (spec_ExprOk.j2 kj4 x3_1 (((rd_T34 l0_0 x3_1).f2).toList != ([] : List UInt8)) l0_0 ((rd_T34 l0_0 x3_1).f0) ((rd_T34 l0_0 x3_1).f1) ((rd_T34 l0_0 x3_1).f2) ((rd_T34 l0_0 x3_1).f3))) else (spec_ExprOk.j2 kj4 x3_1 true l0_0 ((rd_T34 l0_0 x3_1).f0) ((rd_T34 l0_0 x3_1).f1) ((rd_T34 l0_0 x3_1).f2) ((rd_T34 l0_0 x3_1).f3))) = some r:=H
          have A20:=zm_ A200
          clear A200
          by_cases c21 : t302 = true
          ·subst c21
           have H1 : (if ((rd_T34 l0_0 x3_1).f0) = 2 then ((spec_VarName.f kj4 ((rd_T34 l0_0 x3_1).f2)).bind fun t303 => (if t303 = true then (spec_ExprOk.j2 kj4 x3_1 false l0_0 ((rd_T34 l0_0 x3_1).f0) ((rd_T34 l0_0 x3_1).f1) ((rd_T34 l0_0 x3_1).f2) ((rd_T34 l0_0 x3_1).f3)) else (spec_ExprOk.j2 kj4 x3_1 true l0_0 ((rd_T34 l0_0 x3_1).f0) ((rd_T34 l0_0 x3_1).f1) ((rd_T34 l0_0 x3_1).f2) ((rd_T34 l0_0 x3_1).f3)))) else (spec_ExprOk.j2 kj4 x3_1 (((rd_T34 l0_0 x3_1).f2).toList != ([] : List UInt8)) l0_0 ((rd_T34 l0_0 x3_1).f0) ((rd_T34 l0_0 x3_1).f1) ((rd_T34 l0_0 x3_1).f2) ((rd_T34 l0_0 x3_1).f3))) = some r:=by rw [if_pos rfl] at H;exact H
           clear H
           have H:=H1
           clear H1
           by_cases c22 : ((rd_T34 l0_0 x3_1).f0) = 2
           ·rw [if_pos c22] at H
            have c22b0 : (((rd_T34 l0_0 x3_1).f0) == 2) = true:=beq_iff_eq.mpr c22
            have c22b1 : (((rd_T34 l0_0 x3_1).f0) != 2) = false:=bne_eq_false_iff_eq.mpr c22
            clear c22
            replace H:=Option.bind_eq_some_iff.mp H
            obtain ⟨t303,A230,H⟩:=H
            replace H : (if t303 = true then (spec_ExprOk.j2 kj4 x3_1 false l0_0 ((rd_T34 l0_0 x3_1).f0) ((rd_T34 l0_0 x3_1).f1) ((rd_T34 l0_0 x3_1).f2) ((rd_T34 l0_0 x3_1).f3)) else (spec_ExprOk.j2 kj4 x3_1 true l0_0 ((rd_T34 l0_0 x3_1).f0) ((rd_T34 l0_0 x3_1).f1) ((rd_T34 l0_0 x3_1).f2) ((rd_T34 l0_0 x3_1).f3))) = some r:=H
            have A23:=zm_ A230
            clear A230
            by_cases c24 : t303 = true
            ·subst c24
             have H1 : (spec_ExprOk.j2 kj4 x3_1 false l0_0 ((rd_T34 l0_0 x3_1).f0) ((rd_T34 l0_0 x3_1).f1) ((rd_T34 l0_0 x3_1).f2) ((rd_T34 l0_0 x3_1).f3)) = some r:=by rw [if_pos rfl] at H;exact H
             clear H
             have H:=H1
             clear H1
             have H':=zm_ H
             clear H
             have hnb25:=NB299_296.out
             have hnc25:=NB296_299.out
             have hcz26_0 : wc.cell? ⟨gb299,0,none⟩ = some (.int .i64 ((rd_T34 l0_0 x3_1).f0)):=(zc_ BK299.out 0).trans rfl
             have hcz26_1 : wc.cell? ⟨gb299,1,none⟩ = some (.int .i64 ((rd_T34 l0_0 x3_1).f1)):=(zc_ BK299.out 1).trans rfl
             have hcz26_2 : wc.cell? ⟨gb299,2,none⟩ = some (.string ((rd_T34 l0_0 x3_1).f2)):=(zc_ BK299.out 2).trans rfl
             have hcz26_3 : wc.cell? ⟨gb299,3,none⟩ = some (.slice A298_3 ((rd_T34 l0_0 x3_1).f3).length c298_3):=(zc_ BK299.out 3).trans rfl
             have hfz26_0:=zf_ BK299.out 0
             have hfz26_1:=zf_ BK299.out 1
             have hfz26_2:=zf_ BK299.out 2
             have hfz26_3:=zf_ BK299.out 3
             go_wp2_with (first|(go_at_call 50;(with_reducible refine (spec_l01In.calls ((rd_T34 l0_0 x3_1).f1) 0 99 true _ A20.out).mono ?_);rintro e w' ⟨rfl,⟨nd,rfl⟩⟩;(try first|exact ⟨rfl,_,zw_ _ _ _⟩|exact ⟨rfl,_,Eq.trans (zw_ _ _ _) (congrArg (World.drewN _) (Nat.add_assoc _ _ _))⟩))|(go_at_call 52;(with_reducible refine (spec_VarName.calls kj4 ((rd_T34 l0_0 x3_1).f2) true _ A23.out).mono ?_);rintro e w' ⟨rfl,⟨nd,rfl⟩⟩;(try first|exact ⟨rfl,_,zw_ _ _ _⟩|exact ⟨rfl,_,Eq.trans (zw_ _ _ _) (congrArg (World.drewN _) (Nat.add_assoc _ _ _))⟩)))
             repeat (go_quiet (first|(go_at_call 50;(with_reducible refine (spec_l01In.calls ((rd_T34 l0_0 x3_1).f1) 0 99 true _ A20.out).mono ?_);rintro e w' ⟨rfl,⟨nd,rfl⟩⟩;(try first|exact ⟨rfl,_,zw_ _ _ _⟩|exact ⟨rfl,_,Eq.trans (zw_ _ _ _) (congrArg (World.drewN _) (Nat.add_assoc _ _ _))⟩))|(go_at_call 52;(with_reducible refine (spec_VarName.calls kj4 ((rd_T34 l0_0 x3_1).f2) true _ A23.out).mono ?_);rintro e w' ⟨rfl,⟨nd,rfl⟩⟩;(try first|exact ⟨rfl,_,zw_ _ _ _⟩|exact ⟨rfl,_,Eq.trans (zw_ _ _ _) (congrArg (World.drewN _) (Nat.add_assoc _ _ _))⟩)));try go_wp2_with (first|(go_at_call 50;(with_reducible refine (spec_l01In.calls ((rd_T34 l0_0 x3_1).f1) 0 99 true _ A20.out).mono ?_);rintro e w' ⟨rfl,⟨nd,rfl⟩⟩;(try first|exact ⟨rfl,_,zw_ _ _ _⟩|exact ⟨rfl,_,Eq.trans (zw_ _ _ _) (congrArg (World.drewN _) (Nat.add_assoc _ _ _))⟩))|(go_at_call 52;(with_reducible refine (spec_VarName.calls kj4 ((rd_T34 l0_0 x3_1).f2) true _ A23.out).mono ?_);rintro e w' ⟨rfl,⟨nd,rfl⟩⟩;(try first|exact ⟨rfl,_,zw_ _ _ _⟩|exact ⟨rfl,_,Eq.trans (zw_ _ _ _) (congrArg (World.drewN _) (Nat.add_assoc _ _ _))⟩))))
             go_meet
             case rel => exact ⟨_,(false),zV_,H',⟨by have:=HK1.out;have:=HJ4.out;first|omega|exact Nat.le_refl _⟩,⟨by (with_reducible repeat first|refine zl_ ?_ _|refine zr_ ?_|refine zk_ ?_ _);exact BK296.out⟩,⟨by (with_reducible repeat first|refine zl_ ?_ _|refine zr_ ?_|refine zk_ ?_ _);exact BK299.out⟩,⟨by repeat (first|(with_reducible first|exact HB.out|apply za_|apply zn_|apply zd_|refine zs_ ?_ GE296.out|refine zs_ ?_ GE299.out)|exact HB.out)⟩⟩
            ·replace c24:=Bool.eq_false_iff.mpr c24
             subst c24
             have H1 : (spec_ExprOk.j2 kj4 x3_1 true l0_0 ((rd_T34 l0_0 x3_1).f0) ((rd_T34 l0_0 x3_1).f1) ((rd_T34 l0_0 x3_1).f2) ((rd_T34 l0_0 x3_1).f3)) = some r:=by rw [if_neg (show ¬ (false = true) by decide)] at H;exact H
             clear H
             have H:=H1
             clear H1
             have H':=zm_ H
             clear H
             have hnb27:=NB299_296.out
             have hnc27:=NB296_299.out
             have hcz28_0 : wc.cell? ⟨gb299,0,none⟩ = some (.int .i64 ((rd_T34 l0_0 x3_1).f0)):=(zc_ BK299.out 0).trans rfl
             have hcz28_1 : wc.cell? ⟨gb299,1,none⟩ = some (.int .i64 ((rd_T34 l0_0 x3_1).f1)):=(zc_ BK299.out 1).trans rfl
             have hcz28_2 : wc.cell? ⟨gb299,2,none⟩ = some (.string ((rd_T34 l0_0 x3_1).f2)):=(zc_ BK299.out 2).trans rfl
             have hcz28_3 : wc.cell? ⟨gb299,3,none⟩ = some (.slice A298_3 ((rd_T34 l0_0 x3_1).f3).length c298_3):=(zc_ BK299.out 3).trans rfl
             have hfz28_0:=zf_ BK299.out 0
             have hfz28_1:=zf_ BK299.out 1
             have hfz28_2:=zf_ BK299.out 2
             have hfz28_3:=zf_ BK299.out 3
             go_wp2_with (first|(go_at_call 50;(with_reducible refine (spec_l01In.calls ((rd_T34 l0_0 x3_1).f1) 0 99 true _ A20.out).mono ?_);rintro e w' ⟨rfl,⟨nd,rfl⟩⟩;(try first|exact ⟨rfl,_,zw_ _ _ _⟩|exact ⟨rfl,_,Eq.trans (zw_ _ _ _) (congrArg (World.drewN _) (Nat.add_assoc _ _ _))⟩))|(go_at_call 52;(with_reducible refine (spec_VarName.calls kj4 ((rd_T34 l0_0 x3_1).f2) false _ A23.out).mono ?_);rintro e w' ⟨rfl,⟨nd,rfl⟩⟩;(try first|exact ⟨rfl,_,zw_ _ _ _⟩|exact ⟨rfl,_,Eq.trans (zw_ _ _ _) (congrArg (World.drewN _) (Nat.add_assoc _ _ _))⟩)))
             repeat (go_quiet (first|(go_at_call 50;(with_reducible refine (spec_l01In.calls ((rd_T34 l0_0 x3_1).f1) 0 99 true _ A20.out).mono ?_);rintro e w' ⟨rfl,⟨nd,rfl⟩⟩;(try first|exact ⟨rfl,_,zw_ _ _ _⟩|exact ⟨rfl,_,Eq.trans (zw_ _ _ _) (congrArg (World.drewN _) (Nat.add_assoc _ _ _))⟩))|(go_at_call 52;(with_reducible refine (spec_VarName.calls kj4 ((rd_T34 l0_0 x3_1).f2) false _ A23.out).mono ?_);rintro e w' ⟨rfl,⟨nd,rfl⟩⟩;(try first|exact ⟨rfl,_,zw_ _ _ _⟩|exact ⟨rfl,_,Eq.trans (zw_ _ _ _) (congrArg (World.drewN _) (Nat.add_assoc _ _ _))⟩)));try go_wp2_with (first|(go_at_call 50;(with_reducible refine (spec_l01In.calls ((rd_T34 l0_0 x3_1).f1) 0 99 true _ A20.out).mono ?_);rintro e w' ⟨rfl,⟨nd,rfl⟩⟩;(try first|exact ⟨rfl,_,zw_ _ _ _⟩|exact ⟨rfl,_,Eq.trans (zw_ _ _ _) (congrArg (World.drewN _) (Nat.add_assoc _ _ _))⟩))|(go_at_call 52;(with_reducible refine (spec_VarName.calls kj4 ((rd_T34 l0_0 x3_1).f2) false _ A23.out).mono ?_);rintro e w' ⟨rfl,⟨nd,rfl⟩⟩;(try first|exact ⟨rfl,_,zw_ _ _ _⟩|exact ⟨rfl,_,Eq.trans (zw_ _ _ _) (congrArg (World.drewN _) (Nat.add_assoc _ _ _))⟩))))
             go_meet
             case rel => exact ⟨_,(true),zV_,H',⟨by have:=HK1.out;have:=HJ4.out;first|omega|exact Nat.le_refl _⟩,⟨by (with_reducible repeat first|refine zl_ ?_ _|refine zr_ ?_|refine zk_ ?_ _);exact BK296.out⟩,⟨by (with_reducible repeat first|refine zl_ ?_ _|refine zr_ ?_|refine zk_ ?_ _);exact BK299.out⟩,⟨by repeat (first|(with_reducible first|exact HB.out|apply za_|apply zn_|apply zd_|refine zs_ ?_ GE296.out|refine zs_ ?_ GE299.out)|exact HB.out)⟩⟩
           ·rw [if_neg c22] at H
            have c22b0 : (((rd_T34 l0_0 x3_1).f0) == 2) = false:=beq_eq_false_iff_ne.mpr c22
            have c22b1 : (((rd_T34 l0_0 x3_1).f0) != 2) = true:=bne_iff_ne.mpr c22
            have H':=zm_ H
            clear H
            have hnb29:=NB299_296.out
            have hnc29:=NB296_299.out
            have hcz30_0 : wc.cell? ⟨gb299,0,none⟩ = some (.int .i64 ((rd_T34 l0_0 x3_1).f0)):=(zc_ BK299.out 0).trans rfl
            have hcz30_1 : wc.cell? ⟨gb299,1,none⟩ = some (.int .i64 ((rd_T34 l0_0 x3_1).f1)):=(zc_ BK299.out 1).trans rfl
            have hcz30_2 : wc.cell? ⟨gb299,2,none⟩ = some (.string ((rd_T34 l0_0 x3_1).f2)):=(zc_ BK299.out 2).trans rfl
            have hcz30_3 : wc.cell? ⟨gb299,3,none⟩ = some (.slice A298_3 ((rd_T34 l0_0 x3_1).f3).length c298_3):=(zc_ BK299.out 3).trans rfl
            have hfz30_0:=zf_ BK299.out 0
            have hfz30_1:=zf_ BK299.out 1
            have hfz30_2:=zf_ BK299.out 2
            have hfz30_3:=zf_ BK299.out 3
            go_wp2_with (first|(go_at_call 50;(with_reducible refine (spec_l01In.calls ((rd_T34 l0_0 x3_1).f1) 0 99 true _ A20.out).mono ?_);rintro e w' ⟨rfl,⟨nd,rfl⟩⟩;(try first|exact ⟨rfl,_,zw_ _ _ _⟩|exact ⟨rfl,_,Eq.trans (zw_ _ _ _) (congrArg (World.drewN _) (Nat.add_assoc _ _ _))⟩)))
            repeat (go_quiet (first|(go_at_call 50;(with_reducible refine (spec_l01In.calls ((rd_T34 l0_0 x3_1).f1) 0 99 true _ A20.out).mono ?_);rintro e w' ⟨rfl,⟨nd,rfl⟩⟩;(try first|exact ⟨rfl,_,zw_ _ _ _⟩|exact ⟨rfl,_,Eq.trans (zw_ _ _ _) (congrArg (World.drewN _) (Nat.add_assoc _ _ _))⟩)));try go_wp2_with (first|(go_at_call 50;(with_reducible refine (spec_l01In.calls ((rd_T34 l0_0 x3_1).f1) 0 99 true _ A20.out).mono ?_);rintro e w' ⟨rfl,⟨nd,rfl⟩⟩;(try first|exact ⟨rfl,_,zw_ _ _ _⟩|exact ⟨rfl,_,Eq.trans (zw_ _ _ _) (congrArg (World.drewN _) (Nat.add_assoc _ _ _))⟩))))
            go_meet
            case rel => exact ⟨_,((((rd_T34 l0_0 x3_1).f2).toList != ([] : List UInt8))),zV_,H',⟨by have:=HK1.out;have:=HJ4.out;first|omega|exact Nat.le_refl _⟩,⟨by (with_reducible repeat first|refine zl_ ?_ _|refine zr_ ?_|refine zk_ ?_ _);exact BK296.out⟩,⟨by (with_reducible repeat first|refine zl_ ?_ _|refine zr_ ?_|refine zk_ ?_ _);exact BK299.out⟩,⟨by repeat (first|(with_reducible first|exact HB.out|apply za_|apply zn_|apply zd_|refine zs_ ?_ GE296.out|refine zs_ ?_ GE299.out)|exact HB.out)⟩⟩
          ·replace c21:=Bool.eq_false_iff.mpr c21
           subst c21
           have H1 : (spec_ExprOk.j2 kj4 x3_1 true l0_0 ((rd_T34 l0_0 x3_1).f0) ((rd_T34 l0_0 x3_1).f1) ((rd_T34 l0_0 x3_1).f2) ((rd_T34 l0_0 x3_1).f3)) = some r:=by rw [if_neg (show ¬ (false = true) by decide)] at H;exact H
           clear H
           have H:=H1
           clear H1
           have H':=zm_ H
           clear H
           have hnb31:=NB299_296.out
           have hnc31:=NB296_299.out
           have hcz32_0 : wc.cell? ⟨gb299,0,none⟩ = some (.int .i64 ((rd_T34 l0_0 x3_1).f0)):=(zc_ BK299.out 0).trans rfl
           have hcz32_1 : wc.cell? ⟨gb299,1,none⟩ = some (.int .i64 ((rd_T34 l0_0 x3_1).f1)):=(zc_ BK299.out 1).trans rfl
           have hcz32_2 : wc.cell? ⟨gb299,2,none⟩ = some (.string ((rd_T34 l0_0 x3_1).f2)):=(zc_ BK299.out 2).trans rfl
           have hcz32_3 : wc.cell? ⟨gb299,3,none⟩ = some (.slice A298_3 ((rd_T34 l0_0 x3_1).f3).length c298_3):=(zc_ BK299.out 3).trans rfl
           have hfz32_0:=zf_ BK299.out 0
           have hfz32_1:=zf_ BK299.out 1
           have hfz32_2:=zf_ BK299.out 2
           have hfz32_3:=zf_ BK299.out 3
           go_wp2_with (first|(go_at_call 50;(with_reducible refine (spec_l01In.calls ((rd_T34 l0_0 x3_1).f1) 0 99 false _ A20.out).mono ?_);rintro e w' ⟨rfl,⟨nd,rfl⟩⟩;(try first|exact ⟨rfl,_,zw_ _ _ _⟩|exact ⟨rfl,_,Eq.trans (zw_ _ _ _) (congrArg (World.drewN _) (Nat.add_assoc _ _ _))⟩)))
           repeat (go_quiet (first|(go_at_call 50;(with_reducible refine (spec_l01In.calls ((rd_T34 l0_0 x3_1).f1) 0 99 false _ A20.out).mono ?_);rintro e w' ⟨rfl,⟨nd,rfl⟩⟩;(try first|exact ⟨rfl,_,zw_ _ _ _⟩|exact ⟨rfl,_,Eq.trans (zw_ _ _ _) (congrArg (World.drewN _) (Nat.add_assoc _ _ _))⟩)));try go_wp2_with (first|(go_at_call 50;(with_reducible refine (spec_l01In.calls ((rd_T34 l0_0 x3_1).f1) 0 99 false _ A20.out).mono ?_);rintro e w' ⟨rfl,⟨nd,rfl⟩⟩;(try first|exact ⟨rfl,_,zw_ _ _ _⟩|exact ⟨rfl,_,Eq.trans (zw_ _ _ _) (congrArg (World.drewN _) (Nat.add_assoc _ _ _))⟩))))
           go_meet
           case rel => exact ⟨_,(true),zV_,H',⟨by have:=HK1.out;have:=HJ4.out;first|omega|exact Nat.le_refl _⟩,⟨by (with_reducible repeat first|refine zl_ ?_ _|refine zr_ ?_|refine zk_ ?_ _);exact BK296.out⟩,⟨by (with_reducible repeat first|refine zl_ ?_ _|refine zr_ ?_|refine zk_ ?_ _);exact BK299.out⟩,⟨by repeat (first|(with_reducible first|exact HB.out|apply za_|apply zn_|apply zd_|refine zs_ ?_ GE296.out|refine zs_ ?_ GE299.out)|exact HB.out)⟩⟩
         ·rw [if_neg c19] at H
          have c19b0 : (((rd_T34 l0_0 x3_1).f0) == 1) = false:=beq_eq_false_iff_ne.mpr c19
          have c19b1 : (((rd_T34 l0_0 x3_1).f0) != 1) = true:=bne_iff_ne.mpr c19
          (first|rw [c19b0]|(simp only [i64_w,i32_w];rw [c19b0])|skip)
          by_cases c33 : ((rd_T34 l0_0 x3_1).f1) = 0
          ·rw [if_pos c33] at H
           have c33b0 : (((rd_T34 l0_0 x3_1).f1) == 0) = true:=beq_iff_eq.mpr c33
           have c33b1 : (((rd_T34 l0_0 x3_1).f1) != 0) = false:=bne_eq_false_iff_eq.mpr c33
           clear c33
           by_cases c34 : ((rd_T34 l0_0 x3_1).f0) = 2
           ·rw [if_pos c34] at H
            have c34b0 : (((rd_T34 l0_0 x3_1).f0) == 2) = true:=beq_iff_eq.mpr c34
            have c34b1 : (((rd_T34 l0_0 x3_1).f0) != 2) = false:=bne_eq_false_iff_eq.mpr c34
            clear c34
            replace H:=Option.bind_eq_some_iff.mp H
            obtain ⟨t304,A350,H⟩:=H
            replace H : (if t304 = true then (spec_ExprOk.j2 kj4 x3_1 false l0_0 ((rd_T34 l0_0 x3_1).f0) ((rd_T34 l0_0 x3_1).f1) ((rd_T34 l0_0 x3_1).f2) ((rd_T34 l0_0 x3_1).f3)) else (spec_ExprOk.j2 kj4 x3_1 true l0_0 ((rd_T34 l0_0 x3_1).f0) ((rd_T34 l0_0 x3_1).f1) ((rd_T34 l0_0 x3_1).f2) ((rd_T34 l0_0 x3_1).f3))) = some r:=H
            have A35:=zm_ A350
            clear A350
            by_cases c36 : t304 = true
            ·subst c36
             have H1 : (spec_ExprOk.j2 kj4 x3_1 false l0_0 ((rd_T34 l0_0 x3_1).f0) ((rd_T34 l0_0 x3_1).f1) ((rd_T34 l0_0 x3_1).f2) ((rd_T34 l0_0 x3_1).f3)) = some r:=by rw [if_pos rfl] at H;exact H
             clear H
             have H:=H1
             clear H1
             have H':=zm_ H
             clear H
             have hnb37:=NB299_296.out
             have hnc37:=NB296_299.out
             have hcz38_0 : wc.cell? ⟨gb299,0,none⟩ = some (.int .i64 ((rd_T34 l0_0 x3_1).f0)):=(zc_ BK299.out 0).trans rfl
             have hcz38_1 : wc.cell? ⟨gb299,1,none⟩ = some (.int .i64 ((rd_T34 l0_0 x3_1).f1)):=(zc_ BK299.out 1).trans rfl
             have hcz38_2 : wc.cell? ⟨gb299,2,none⟩ = some (.string ((rd_T34 l0_0 x3_1).f2)):=(zc_ BK299.out 2).trans rfl
             have hcz38_3 : wc.cell? ⟨gb299,3,none⟩ = some (.slice A298_3 ((rd_T34 l0_0 x3_1).f3).length c298_3):=(zc_ BK299.out 3).trans rfl
             have hfz38_0:=zf_ BK299.out 0
             have hfz38_1:=zf_ BK299.out 1
             have hfz38_2:=zf_ BK299.out 2
             have hfz38_3:=zf_ BK299.out 3
             go_wp2_with (first|(go_at_call 52;(with_reducible refine (spec_VarName.calls kj4 ((rd_T34 l0_0 x3_1).f2) true _ A35.out).mono ?_);rintro e w' ⟨rfl,⟨nd,rfl⟩⟩;(try first|exact ⟨rfl,_,zw_ _ _ _⟩|exact ⟨rfl,_,Eq.trans (zw_ _ _ _) (congrArg (World.drewN _) (Nat.add_assoc _ _ _))⟩)))
             repeat (go_quiet (first|(go_at_call 52;(with_reducible refine (spec_VarName.calls kj4 ((rd_T34 l0_0 x3_1).f2) true _ A35.out).mono ?_);rintro e w' ⟨rfl,⟨nd,rfl⟩⟩;(try first|exact ⟨rfl,_,zw_ _ _ _⟩|exact ⟨rfl,_,Eq.trans (zw_ _ _ _) (congrArg (World.drewN _) (Nat.add_assoc _ _ _))⟩)));try go_wp2_with (first|(go_at_call 52;(with_reducible refine (spec_VarName.calls kj4 ((rd_T34 l0_0 x3_1).f2) true _ A35.out).mono ?_);rintro e w' ⟨rfl,⟨nd,rfl⟩⟩;(try first|exact ⟨rfl,_,zw_ _ _ _⟩|exact ⟨rfl,_,Eq.trans (zw_ _ _ _) (congrArg (World.drewN _) (Nat.add_assoc _ _ _))⟩))))
             go_meet
             case rel => exact ⟨_,(false),zV_,H',⟨by have:=HK1.out;have:=HJ4.out;first|omega|exact Nat.le_refl _⟩,⟨by (with_reducible repeat first|refine zl_ ?_ _|refine zr_ ?_|refine zk_ ?_ _);exact BK296.out⟩,⟨by (with_reducible repeat first|refine zl_ ?_ _|refine zr_ ?_|refine zk_ ?_ _);exact BK299.out⟩,⟨by repeat (first|(with_reducible first|exact HB.out|apply za_|apply zn_|apply zd_|refine zs_ ?_ GE296.out|refine zs_ ?_ GE299.out)|exact HB.out)⟩⟩
            ·replace c36:=Bool.eq_false_iff.mpr c36
             subst c36
             have H1 : (spec_ExprOk.j2 kj4 x3_1 true l0_0 ((rd_T34 l0_0 x3_1).f0) ((rd_T34 l0_0 x3_1).f1) ((rd_T34 l0_0 x3_1).f2) ((rd_T34 l0_0 x3_1).f3)) = some r:=by rw [if_neg (show ¬ (false = true) by decide)] at H;exact H
             clear H
             have H:=H1
             clear H1
             have H':=zm_ H
             clear H
             have hnb39:=NB299_296.out
             have hnc39:=NB296_299.out
             have hcz40_0 : wc.cell? ⟨gb299,0,none⟩ = some (.int .i64 ((rd_T34 l0_0 x3_1).f0)):=(zc_ BK299.out 0).trans rfl
             have hcz40_1 : wc.cell? ⟨gb299,1,none⟩ = some (.int .i64 ((rd_T34 l0_0 x3_1).f1)):=(zc_ BK299.out 1).trans rfl
             have hcz40_2 : wc.cell? ⟨gb299,2,none⟩ = some (.string ((rd_T34 l0_0 x3_1).f2)):=(zc_ BK299.out 2).trans rfl
             have hcz40_3 : wc.cell? ⟨gb299,3,none⟩ = some (.slice A298_3 ((rd_T34 l0_0 x3_1).f3).length c298_3):=(zc_ BK299.out 3).trans rfl
             have hfz40_0:=zf_ BK299.out 0
             have hfz40_1:=zf_ BK299.out 1
             have hfz40_2:=zf_ BK299.out 2
             have hfz40_3:=zf_ BK299.out 3
             go_wp2_with (first|(go_at_call 52;(with_reducible refine (spec_VarName.calls kj4 ((rd_T34 l0_0 x3_1).f2) false _ A35.out).mono ?_);rintro e w' ⟨rfl,⟨nd,rfl⟩⟩;(try first|exact ⟨rfl,_,zw_ _ _ _⟩|exact ⟨rfl,_,Eq.trans (zw_ _ _ _) (congrArg (World.drewN _) (Nat.add_assoc _ _ _))⟩)))
             repeat (go_quiet (first|(go_at_call 52;(with_reducible refine (spec_VarName.calls kj4 ((rd_T34 l0_0 x3_1).f2) false _ A35.out).mono ?_);rintro e w' ⟨rfl,⟨nd,rfl⟩⟩;(try first|exact ⟨rfl,_,zw_ _ _ _⟩|exact ⟨rfl,_,Eq.trans (zw_ _ _ _) (congrArg (World.drewN _) (Nat.add_assoc _ _ _))⟩)));try go_wp2_with (first|(go_at_call 52;(with_reducible refine (spec_VarName.calls kj4 ((rd_T34 l0_0 x3_1).f2) false _ A35.out).mono ?_);rintro e w' ⟨rfl,⟨nd,rfl⟩⟩;(try first|exact ⟨rfl,_,zw_ _ _ _⟩|exact ⟨rfl,_,Eq.trans (zw_ _ _ _) (congrArg (World.drewN _) (Nat.add_assoc _ _ _))⟩))))
             go_meet
             case rel => exact ⟨_,(true),zV_,H',⟨by have:=HK1.out;have:=HJ4.out;first|omega|exact Nat.le_refl _⟩,⟨by (with_reducible repeat first|refine zl_ ?_ _|refine zr_ ?_|refine zk_ ?_ _);exact BK296.out⟩,⟨by (with_reducible repeat first|refine zl_ ?_ _|refine zr_ ?_|refine zk_ ?_ _);exact BK299.out⟩,⟨by repeat (first|(with_reducible first|exact HB.out|apply za_|apply zn_|apply zd_|refine zs_ ?_ GE296.out|refine zs_ ?_ GE299.out)|exact HB.out)⟩⟩
           ·rw [if_neg c34] at H
            have c34b0 : (((rd_T34 l0_0 x3_1).f0) == 2) = false:=beq_eq_false_iff_ne.mpr c34
            have c34b1 : (((rd_T34 l0_0 x3_1).f0) != 2) = true:=bne_iff_ne.mpr c34
            have H':=zm_ H
            clear H
            have hnb41:=NB299_296.out
            have hnc41:=NB296_299.out
            have hcz42_0 : wc.cell? ⟨gb299,0,none⟩ = some (.int .i64 ((rd_T34 l0_0 x3_1).f0)):=(zc_ BK299.out 0).trans rfl
            have hcz42_1 : wc.cell? ⟨gb299,1,none⟩ = some (.int .i64 ((rd_T34 l0_0 x3_1).f1)):=(zc_ BK299.out 1).trans rfl
            have hcz42_2 : wc.cell? ⟨gb299,2,none⟩ = some (.string ((rd_T34 l0_0 x3_1).f2)):=(zc_ BK299.out 2).trans rfl
            have hcz42_3 : wc.cell? ⟨gb299,3,none⟩ = some (.slice A298_3 ((rd_T34 l0_0 x3_1).f3).length c298_3):=(zc_ BK299.out 3).trans rfl
            have hfz42_0:=zf_ BK299.out 0
            have hfz42_1:=zf_ BK299.out 1
            have hfz42_2:=zf_ BK299.out 2
            have hfz42_3:=zf_ BK299.out 3
            go_wp2
            repeat (go_quiet (fail);try go_wp2)
            go_meet
            case rel => exact ⟨_,((((rd_T34 l0_0 x3_1).f2).toList != ([] : List UInt8))),zV_,H',⟨by have:=HK1.out;have:=HJ4.out;first|omega|exact Nat.le_refl _⟩,⟨by (with_reducible repeat first|refine zl_ ?_ _|refine zr_ ?_|refine zk_ ?_ _);exact BK296.out⟩,⟨by (with_reducible repeat first|refine zl_ ?_ _|refine zr_ ?_|refine zk_ ?_ _);exact BK299.out⟩,⟨by repeat (first|(with_reducible first|exact HB.out|apply za_|apply zn_|apply zd_|refine zs_ ?_ GE296.out|refine zs_ ?_ GE299.out)|exact HB.out)⟩⟩
          ·rw [if_neg c33] at H
           have c33b0 : (((rd_T34 l0_0 x3_1).f1) == 0) = false:=beq_eq_false_iff_ne.mpr c33
           have c33b1 : (((rd_T34 l0_0 x3_1).f1) != 0) = true:=bne_iff_ne.mpr c33
           have H':=zm_ H
           clear H
           have hnb43:=NB299_296.out
           have hnc43:=NB296_299.out
           have hcz44_0 : wc.cell? ⟨gb299,0,none⟩ = some (.int .i64 ((rd_T34 l0_0 x3_1).f0)):=(zc_ BK299.out 0).trans rfl
           have hcz44_1 : wc.cell? ⟨gb299,1,none⟩ = some (.int .i64 ((rd_T34 l0_0 x3_1).f1)):=(zc_ BK299.out 1).trans rfl
           have hcz44_2 : wc.cell? ⟨gb299,2,none⟩ = some (.string ((rd_T34 l0_0 x3_1).f2)):=(zc_ BK299.out 2).trans rfl
           have hcz44_3 : wc.cell? ⟨gb299,3,none⟩ = some (.slice A298_3 ((rd_T34 l0_0 x3_1).f3).length c298_3):=(zc_ BK299.out 3).trans rfl
           have hfz44_0:=zf_ BK299.out 0
           have hfz44_1:=zf_ BK299.out 1
           have hfz44_2:=zf_ BK299.out 2
           have hfz44_3:=zf_ BK299.out 3
           go_wp2
           repeat (go_quiet (fail);try go_wp2)
           go_meet
           case rel => exact ⟨_,(true),zV_,H',⟨by have:=HK1.out;have:=HJ4.out;first|omega|exact Nat.le_refl _⟩,⟨by (with_reducible repeat first|refine zl_ ?_ _|refine zr_ ?_|refine zk_ ?_ _);exact BK296.out⟩,⟨by (with_reducible repeat first|refine zl_ ?_ _|refine zr_ ?_|refine zk_ ?_ _);exact BK299.out⟩,⟨by repeat (first|(with_reducible first|exact HB.out|apply za_|apply zn_|apply zd_|refine zs_ ?_ GE296.out|refine zs_ ?_ GE299.out)|exact HB.out)⟩⟩
        case rest =>
         clear HC18
         try clear c1
         try clear c2
         try clear p2
         try clear q2
         try clear hx2
         try clear c3
         try clear c3b0
         try clear c4
         try clear c4b0
         try clear c8
         try clear c11
         try clear c13
         try clear c15
         try clear c17
         try clear c19
         try clear c19b0
         try clear c19b1
         try clear c21
         try clear c22
         try clear c22b0
         try clear c22b1
         try clear c24
         try clear c25
         try clear c27
         try clear c29
         try clear p29
         try clear q29
         try clear hx29
         try clear c31
         try clear c33
         try clear c33b0
         try clear c33b1
         try clear c34
         try clear c34b0
         try clear c34b1
         try clear c36
         try clear c37
         try clear c39
         try clear c41
         try clear c43
         try clear hcz14_0
         try clear hcz14_1
         try clear hcz14_2
         try clear hcz14_3
         try clear hcz16_0
         try clear hcz16_1
         try clear hcz16_2
         try clear hcz16_3
         try clear hcz26_0
         try clear hcz26_1
         try clear hcz26_2
         try clear hcz26_3
         try clear hcz28_0
         try clear hcz28_1
         try clear hcz28_2
         try clear hcz28_3
         try clear hcz30_0
         try clear hcz30_1
         try clear hcz30_2
         try clear hcz30_3
         try clear hcz32_0
         try clear hcz32_1
         try clear hcz32_2
         try clear hcz32_3
         try clear hcz38_0
         try clear hcz38_1
         try clear hcz38_2
         try clear hcz38_3
         try clear hcz40_0
         try clear hcz40_1
         try clear hcz40_2
         try clear hcz40_3
         try clear hcz42_0
         try clear hcz42_1
         try clear hcz42_2
         try clear hcz42_3
         try clear hcz44_0
         try clear hcz44_1
         try clear hcz44_2
         try clear hcz44_3
         try clear hcz6_0
         try clear hcz9_0
         try clear hcz9_1
         try clear hcz9_2
         try clear hcz9_3
         try clear hfz14_0
         try clear hfz14_1
         try clear hfz14_2
         try clear hfz14_3
         try clear hfz16_0
         try clear hfz16_1
         try clear hfz16_2
         try clear hfz16_3
         try clear hfz26_0
         try clear hfz26_1
         try clear hfz26_2
         try clear hfz26_3
         try clear hfz28_0
         try clear hfz28_1
         try clear hfz28_2
         try clear hfz28_3
         try clear hfz30_0
         try clear hfz30_1
         try clear hfz30_2
         try clear hfz30_3
         try clear hfz32_0
         try clear hfz32_1
         try clear hfz32_2
         try clear hfz32_3
         try clear hfz38_0
         try clear hfz38_1
         try clear hfz38_2
         try clear hfz38_3
         try clear hfz40_0
         try clear hfz40_1
         try clear hfz40_2
         try clear hfz40_3
         try clear hfz42_0
         try clear hfz42_1
         try clear hfz42_2
         try clear hfz42_3
         try clear hfz44_0
         try clear hfz44_1
         try clear hfz44_2
         try clear hfz44_3
         try clear hfz6_0
         try clear hfz9_0
         try clear hfz9_1
         try clear hfz9_2
         try clear hfz9_3
         try clear hx298_0
         try clear hx298_1
         try clear hx298_2
         try clear hx298_3
         try clear p2
         try clear p298
         try clear q2
         try clear q298
         obtain ⟨kq,x70_17,rfl,HA,HJ17,BK296,BK299,HB⟩:=hcut
         cases kq with
         |zero => exact absurd HA.out (by simp [spec_ExprOk.j2])
         |succ kj17 =>
          have H:=HA.out
          clear HA
          simp only [spec_ExprOk.j2] at H
          by_cases c45 : x70_17 = true
          ·subst c45
           have H1 : (some false) = some r:=by rw [if_pos rfl] at H;exact H
           clear H
           have H:=H1
           clear H1
           obtain rfl:=Option.some.inj H
           go_wp2
           repeat (go_quiet (fail);try go_wp2)
           go_ret
           exact ⟨zE_,by repeat (first|(with_reducible first|exact HB.out|apply za_|apply zn_|apply zd_|refine zs_ ?_ GE296.out|refine zs_ ?_ GE299.out)|exact HB.out)⟩
          ·replace c45:=Bool.eq_false_iff.mpr c45
           subst c45
           have H1 : (spec_ExprOk.l1 kj17 x3_1 0 l0_0 ((rd_T34 l0_0 x3_1).f0) ((rd_T34 l0_0 x3_1).f1) ((rd_T34 l0_0 x3_1).f2) ((rd_T34 l0_0 x3_1).f3)) = some r:=by rw [if_neg (show ¬ (false = true) by decide)] at H;exact H
           clear H
           have H:=H1
           clear H1
           have H':=zm_ H
           clear H
           go_wp2
           repeat (go_quiet (fail);try go_wp2)
           go_loopg [5] kj17 (fun kq v5 w' => ∃ (x5_4 : Int),v5 = .int .i64 x5_4 ∧ Aside0 (spec_ExprOk.l1 kq x3_1 x5_4 l0_0 ((rd_T34 l0_0 x3_1).f0) ((rd_T34 l0_0 x3_1).f1) ((rd_T34 l0_0 x3_1).f2) ((rd_T34 l0_0 x3_1).f3) = some r) ∧ Aside0 (kq ≤ kj17) ∧ Aside0 (w'.heap[gb296]? = some (.cells #[(.slice (some ad298) l0_0.length c0_0)] 28 (0,0))) ∧ Aside0 (w'.heap[gb299]? = some (.cells #[.int .i64 ((rd_T34 l0_0 x3_1).f0),.int .i64 ((rd_T34 l0_0 x3_1).f1),.string ((rd_T34 l0_0 x3_1).f2),(.slice A298_3 ((rd_T34 l0_0 x3_1).f3).length c298_3)] 34 (0,0))) ∧ Aside0 (Below w.heap.size w w'))
           case atStart => exact ⟨(0),zV_,H',⟨Nat.le_refl _⟩,⟨by (with_reducible repeat first|refine zl_ ?_ _|refine zr_ ?_|refine zk_ ?_ _);exact BK296.out⟩,⟨by (with_reducible repeat first|refine zl_ ?_ _|refine zr_ ?_|refine zk_ ?_ _);exact BK299.out⟩,⟨by repeat (first|(with_reducible first|exact HB.out|apply za_|apply zn_|apply zd_|refine zs_ ?_ GE296.out|refine zs_ ?_ GE299.out)|exact HB.out)⟩⟩
           case round =>
            clear H'
            try clear c1
            try clear c2
            try clear p2
            try clear q2
            try clear hx2
            try clear c3
            try clear c3b0
            try clear c4
            try clear c4b0
            try clear c8
            try clear c11
            try clear c13
            try clear c15
            try clear c17
            try clear c19
            try clear c19b0
            try clear c19b1
            try clear c21
            try clear c22
            try clear c22b0
            try clear c22b1
            try clear c24
            try clear c25
            try clear c27
            try clear c29
            try clear p29
            try clear q29
            try clear hx29
            try clear c31
            try clear c33
            try clear c33b0
            try clear c33b1
            try clear c34
            try clear c34b0
            try clear c34b1
            try clear c36
            try clear c37
            try clear c39
            try clear c41
            try clear c43
            try clear c45
            try clear hcz14_0
            try clear hcz14_1
            try clear hcz14_2
            try clear hcz14_3
            try clear hcz16_0
            try clear hcz16_1
            try clear hcz16_2
            try clear hcz16_3
            try clear hcz26_0
            try clear hcz26_1
            try clear hcz26_2
            try clear hcz26_3
            try clear hcz28_0
            try clear hcz28_1
            try clear hcz28_2
            try clear hcz28_3
            try clear hcz30_0
            try clear hcz30_1
            try clear hcz30_2
            try clear hcz30_3
            try clear hcz32_0
            try clear hcz32_1
            try clear hcz32_2
            try clear hcz32_3
            try clear hcz38_0
            try clear hcz38_1
            try clear hcz38_2
            try clear hcz38_3
            try clear hcz40_0
            try clear hcz40_1
            try clear hcz40_2
            try clear hcz40_3
            try clear hcz42_0
            try clear hcz42_1
            try clear hcz42_2
            try clear hcz42_3
            try clear hcz44_0
            try clear hcz44_1
            try clear hcz44_2
            try clear hcz44_3
            try clear hcz6_0
            try clear hcz9_0
            try clear hcz9_1
            try clear hcz9_2
            try clear hcz9_3
            try clear hfz14_0
            try clear hfz14_1
            try clear hfz14_2
            try clear hfz14_3
            try clear hfz16_0
            try clear hfz16_1
            try clear hfz16_2
            try clear hfz16_3
            try clear hfz26_0
            try clear hfz26_1
            try clear hfz26_2
            try clear hfz26_3
            try clear hfz28_0
            try clear hfz28_1
            try clear hfz28_2
            try clear hfz28_3
            try clear hfz30_0
            try clear hfz30_1
            try clear hfz30_2
            try clear hfz30_3
            try clear hfz32_0
            try clear hfz32_1
            try clear hfz32_2
            try clear hfz32_3
            try clear hfz38_0
            try clear hfz38_1
            try clear hfz38_2
            try clear hfz38_3
            try clear hfz40_0
            try clear hfz40_1
            try clear hfz40_2
            try clear hfz40_3
            try clear hfz42_0
            try clear hfz42_1
            try clear hfz42_2
            try clear hfz42_3
            try clear hfz44_0
            try clear hfz44_1
            try clear hfz44_2
            try clear hfz44_3
            try clear hfz6_0
            try clear hfz9_0
            try clear hfz9_1
            try clear hfz9_2
            try clear hfz9_3
            try clear hx298_0
            try clear hx298_1
            try clear hx298_2
            try clear hx298_3
            try clear p2
            try clear p29
            try clear p298
            try clear q2
            try clear q29
            try clear q298
            obtain ⟨x5_4,rfl,HA,HK4,BK296,BK299,HB⟩:=hrel
            cases gk with
            |zero => exact absurd HA.out (by simp [spec_ExprOk.l1])
            |succ k4 =>
             have H:=HA.out
             clear HA
             simp only [spec_ExprOk.l1] at H
             by_cases c46 : x5_4 < (((rd_T34 l0_0 x3_1).f3).length : Int)
             ·rw [if_pos c46] at H
              have c46b0 : decide (x5_4 < (((rd_T34 l0_0 x3_1).f3).length : Int)) = true:=decide_eq_true c46
              clear c46
              by_cases c47 : 0 ≤ x5_4
              ·rw [if_pos c47] at H
               have c47b0 : decide (0 ≤ x5_4) = true:=decide_eq_true c47
               clear c47
               replace H:=Option.bind_eq_some_iff.mp H
               obtain ⟨t306,A480,H⟩:=H
               replace H : (if t306 = true then (spec_ExprOk.l1 k4 x3_1 (wrap64 (x5_4 + 1)) l0_0 ((rd_T34 l0_0 x3_1).f0) ((rd_T34 l0_0 x3_1).f1) ((rd_T34 l0_0 x3_1).f2) ((rd_T34 l0_0 x3_1).f3)) else (some false)) = some r:=H
               have A48:=zm_ A480
               clear A480
               by_cases c49 : t306 = true
               ·subst c49
                have H1 : (spec_ExprOk.l1 k4 x3_1 (wrap64 (x5_4 + 1)) l0_0 ((rd_T34 l0_0 x3_1).f0) ((rd_T34 l0_0 x3_1).f1) ((rd_T34 l0_0 x3_1).f2) ((rd_T34 l0_0 x3_1).f3)) = some r:=by rw [if_pos rfl] at H;exact H
                clear H
                have H:=H1
                clear H1
                have H':=zm_ H
                clear H
                have hnb50:=NB299_296.out
                have hnc50:=NB296_299.out
                have hcz51_0 : wr.cell? ⟨gb299,0,none⟩ = some (.int .i64 ((rd_T34 l0_0 x3_1).f0)):=(zc_ BK299.out 0).trans rfl
                have hcz51_1 : wr.cell? ⟨gb299,1,none⟩ = some (.int .i64 ((rd_T34 l0_0 x3_1).f1)):=(zc_ BK299.out 1).trans rfl
                have hcz51_2 : wr.cell? ⟨gb299,2,none⟩ = some (.string ((rd_T34 l0_0 x3_1).f2)):=(zc_ BK299.out 2).trans rfl
                have hcz51_3 : wr.cell? ⟨gb299,3,none⟩ = some (.slice A298_3 ((rd_T34 l0_0 x3_1).f3).length c298_3):=(zc_ BK299.out 3).trans rfl
                have hfz51_0:=zf_ BK299.out 0
                have hfz51_1:=zf_ BK299.out 1
                have hfz51_2:=zf_ BK299.out 2
                have hfz51_3:=zf_ BK299.out 3
                have p305 : 0 ≤ (x5_4 : Int):=zo_
                have q305 : x5_4 < (((rd_T34 l0_0 x3_1).f3).length : Int):=zo_
                obtain ⟨ad305,e305,hx305_0⟩:=Kd.at_int HR298_3.out x5_4 p305 q305
                cases e305
                replace hx305_0:=(HB.out.cell (zb_ w _ hx305_0)).trans hx305_0
                replace p305:=eq_true p305
                replace q305:=eq_true q305
                go_wp2_with (first|(go_at_call 50;(with_reducible refine (spec_l01In.calls (rd ((rd_T34 l0_0 x3_1).f3) x5_4) 0 (wrap64 (x3_1 - 1)) true _ A48.out).mono ?_);rintro e w' ⟨rfl,⟨nd,rfl⟩⟩;(try first|exact ⟨rfl,_,zw_ _ _ _⟩|exact ⟨rfl,_,Eq.trans (zw_ _ _ _) (congrArg (World.drewN _) (Nat.add_assoc _ _ _))⟩)))
                repeat (go_quiet (first|(go_at_call 50;(with_reducible refine (spec_l01In.calls (rd ((rd_T34 l0_0 x3_1).f3) x5_4) 0 (wrap64 (x3_1 - 1)) true _ A48.out).mono ?_);rintro e w' ⟨rfl,⟨nd,rfl⟩⟩;(try first|exact ⟨rfl,_,zw_ _ _ _⟩|exact ⟨rfl,_,Eq.trans (zw_ _ _ _) (congrArg (World.drewN _) (Nat.add_assoc _ _ _))⟩)));try go_wp2_with (first|(go_at_call 50;(with_reducible refine (spec_l01In.calls (rd ((rd_T34 l0_0 x3_1).f3) x5_4) 0 (wrap64 (x3_1 - 1)) true _ A48.out).mono ?_);rintro e w' ⟨rfl,⟨nd,rfl⟩⟩;(try first|exact ⟨rfl,_,zw_ _ _ _⟩|exact ⟨rfl,_,Eq.trans (zw_ _ _ _) (congrArg (World.drewN _) (Nat.add_assoc _ _ _))⟩))))
                go_roundg k4
                case measure => have:=HK1.out;have:=HJ4.out;have:=HJ17.out;have:=HK4.out;omega
                case rel => exact ⟨(wrap64 (x5_4 + 1)),zV_,H',⟨by have:=HK1.out;have:=HJ4.out;have:=HJ17.out;have:=HK4.out;omega⟩,⟨by (with_reducible repeat first|refine zl_ ?_ _|refine zr_ ?_|refine zk_ ?_ _);exact BK296.out⟩,⟨by (with_reducible repeat first|refine zl_ ?_ _|refine zr_ ?_|refine zk_ ?_ _);exact BK299.out⟩,⟨by repeat (first|(with_reducible first|exact HB.out|apply za_|apply zn_|apply zd_|refine zs_ ?_ GE296.out|refine zs_ ?_ GE299.out)|exact HB.out)⟩⟩
               ·replace c49:=Bool.eq_false_iff.mpr c49
                subst c49
                have H1 : (some false) = some r:=by rw [if_neg (show ¬ (false = true) by decide)] at H;exact H
                clear H
                have H:=H1
                clear H1
                obtain rfl:=Option.some.inj H
                have hnb52:=NB299_296.out
                have hnc52:=NB296_299.out
                have hcz53_0 : wr.cell? ⟨gb299,0,none⟩ = some (.int .i64 ((rd_T34 l0_0 x3_1).f0)):=(zc_ BK299.out 0).trans rfl
                have hcz53_1 : wr.cell? ⟨gb299,1,none⟩ = some (.int .i64 ((rd_T34 l0_0 x3_1).f1)):=(zc_ BK299.out 1).trans rfl
                have hcz53_2 : wr.cell? ⟨gb299,2,none⟩ = some (.string ((rd_T34 l0_0 x3_1).f2)):=(zc_ BK299.out 2).trans rfl
                have hcz53_3 : wr.cell? ⟨gb299,3,none⟩ = some (.slice A298_3 ((rd_T34 l0_0 x3_1).f3).length c298_3):=(zc_ BK299.out 3).trans rfl
                have hfz53_0:=zf_ BK299.out 0
                have hfz53_1:=zf_ BK299.out 1
                have hfz53_2:=zf_ BK299.out 2
                have hfz53_3:=zf_ BK299.out 3
                have p305 : 0 ≤ (x5_4 : Int):=zo_
                have q305 : x5_4 < (((rd_T34 l0_0 x3_1).f3).length : Int):=zo_
                obtain ⟨ad305,e305,hx305_0⟩:=Kd.at_int HR298_3.out x5_4 p305 q305
                cases e305
                replace hx305_0:=(HB.out.cell (zb_ w _ hx305_0)).trans hx305_0
                replace p305:=eq_true p305
                replace q305:=eq_true q305
                go_wp2_with (first|(go_at_call 50;(with_reducible refine (spec_l01In.calls (rd ((rd_T34 l0_0 x3_1).f3) x5_4) 0 (wrap64 (x3_1 - 1)) false _ A48.out).mono ?_);rintro e w' ⟨rfl,⟨nd,rfl⟩⟩;(try first|exact ⟨rfl,_,zw_ _ _ _⟩|exact ⟨rfl,_,Eq.trans (zw_ _ _ _) (congrArg (World.drewN _) (Nat.add_assoc _ _ _))⟩)))
                repeat (go_quiet (first|(go_at_call 50;(with_reducible refine (spec_l01In.calls (rd ((rd_T34 l0_0 x3_1).f3) x5_4) 0 (wrap64 (x3_1 - 1)) false _ A48.out).mono ?_);rintro e w' ⟨rfl,⟨nd,rfl⟩⟩;(try first|exact ⟨rfl,_,zw_ _ _ _⟩|exact ⟨rfl,_,Eq.trans (zw_ _ _ _) (congrArg (World.drewN _) (Nat.add_assoc _ _ _))⟩)));try go_wp2_with (first|(go_at_call 50;(with_reducible refine (spec_l01In.calls (rd ((rd_T34 l0_0 x3_1).f3) x5_4) 0 (wrap64 (x3_1 - 1)) false _ A48.out).mono ?_);rintro e w' ⟨rfl,⟨nd,rfl⟩⟩;(try first|exact ⟨rfl,_,zw_ _ _ _⟩|exact ⟨rfl,_,Eq.trans (zw_ _ _ _) (congrArg (World.drewN _) (Nat.add_assoc _ _ _))⟩))))
                go_ret
                exact ⟨zE_,by repeat (first|(with_reducible first|exact HB.out|apply za_|apply zn_|apply zd_|refine zs_ ?_ GE296.out|refine zs_ ?_ GE299.out)|exact HB.out)⟩
              ·rw [if_neg c47] at H
               exact absurd H (by simp)
             ·rw [if_neg c46] at H
              have c46b0 : decide (x5_4 < (((rd_T34 l0_0 x3_1).f3).length : Int)) = false:=decide_eq_false c46
              clear c46
              have H':=zm_ H
              clear H
              have hnb54:=NB299_296.out
              have hnc54:=NB296_299.out
              have hcz55_0 : wr.cell? ⟨gb299,0,none⟩ = some (.int .i64 ((rd_T34 l0_0 x3_1).f0)):=(zc_ BK299.out 0).trans rfl
              have hcz55_1 : wr.cell? ⟨gb299,1,none⟩ = some (.int .i64 ((rd_T34 l0_0 x3_1).f1)):=(zc_ BK299.out 1).trans rfl
              have hcz55_2 : wr.cell? ⟨gb299,2,none⟩ = some (.string ((rd_T34 l0_0 x3_1).f2)):=(zc_ BK299.out 2).trans rfl
              have hcz55_3 : wr.cell? ⟨gb299,3,none⟩ = some (.slice A298_3 ((rd_T34 l0_0 x3_1).f3).length c298_3):=(zc_ BK299.out 3).trans rfl
              have hfz55_0:=zf_ BK299.out 0
              have hfz55_1:=zf_ BK299.out 1
              have hfz55_2:=zf_ BK299.out 2
              have hfz55_3:=zf_ BK299.out 3
              go_wp2
              repeat (go_quiet (fail);try go_wp2)
              go_roundg k4
              case measure => have:=HK1.out;have:=HJ4.out;have:=HJ17.out;have:=HK4.out;omega
              case rel => exact ⟨(wrap64 (x3_1 + 1)),zV_,H',⟨by have:=HK1.out;have:=HJ4.out;have:=HJ17.out;have:=HK4.out;omega⟩,⟨by (with_reducible repeat first|refine zl_ ?_ _|refine zr_ ?_|refine zk_ ?_ _);exact BK296.out⟩,⟨by repeat (first|(with_reducible first|exact HB.out|apply za_|apply zn_|apply zd_|refine zs_ ?_ GE296.out|refine zs_ ?_ GE299.out)|exact HB.out)⟩⟩
    ·rw [if_neg c4] at H
     exact absurd H (by simp)
   ·rw [if_neg c3] at H
    have c3b0 : decide (x3_1 < (l0_0.length : Int)) = false:=decide_eq_false c3
    clear c3
    replace H:=Option.bind_eq_some_iff.mp H
    obtain ⟨t297,A560,H⟩:=H
    replace H : (some t297) = some r:=H
    have A56:=zm_ A560
    clear A560
    obtain rfl:=Option.some.inj H
    have hcz57_0 : wr.cell? ⟨gb296,0,none⟩ = some (.slice A0_0 l0_0.length c0_0):=(zc_ BK296.out 0).trans rfl
    have hfz57_0:=zf_ BK296.out 0
    go_wp2_with (first|(go_at_call 50;(with_reducible refine (spec_l01In.calls (l0_0.length : Int) 1 20 t297 _ A56.out).mono ?_);rintro e w' ⟨rfl,⟨nd,rfl⟩⟩;(try first|exact ⟨rfl,_,zw_ _ _ _⟩|exact ⟨rfl,_,Eq.trans (zw_ _ _ _) (congrArg (World.drewN _) (Nat.add_assoc _ _ _))⟩)))
    repeat (go_quiet (first|(go_at_call 50;(with_reducible refine (spec_l01In.calls (l0_0.length : Int) 1 20 t297 _ A56.out).mono ?_);rintro e w' ⟨rfl,⟨nd,rfl⟩⟩;(try first|exact ⟨rfl,_,zw_ _ _ _⟩|exact ⟨rfl,_,Eq.trans (zw_ _ _ _) (congrArg (World.drewN _) (Nat.add_assoc _ _ _))⟩)));try go_wp2_with (first|(go_at_call 50;(with_reducible refine (spec_l01In.calls (l0_0.length : Int) 1 20 t297 _ A56.out).mono ?_);rintro e w' ⟨rfl,⟨nd,rfl⟩⟩;(try first|exact ⟨rfl,_,zw_ _ _ _⟩|exact ⟨rfl,_,Eq.trans (zw_ _ _ _) (congrArg (World.drewN _) (Nat.add_assoc _ _ _))⟩))))
    go_ret
    exact ⟨zE_,by repeat (first|(with_reducible first|exact HB.out|apply za_|apply zn_|apply zd_|refine zs_ ?_ GE296.out)|exact HB.out)⟩

end Go.Proofs.Ytnmhggdaccbbfaa.MFnExprs
