import Derived.Test.YtkbgmojomgelbaaGreatMFnExactGrammarOkx0
import Derived.Test.YtkbgmojomgelbaaGreatMFnExactGrammarOkx2
import Derived.Test.YtkbgmojomgelbaaGreatMFnExactGrammarOkx3
import Derived.Test.YtkbgmojomgelbaaGreatMFnExactGrammarOkx5
namespace Go.Proofs.YtkbgmojomgelbaaGreat.MFnExactGrammarOk
open Go.RowKit Go.Proofs.YtkbgmojomgelbaaGreatW.PrintWords Go.Proofs.YtkbgmojomgelbaaGreatW.PrintLast Go.Proofs.YtkbgmojomgelbaaGreatW.PrintMore
attribute [local go_sem] max2_int min2_int max_two min_two max_three min_three max_four min_four
set_option linter.unusedVariables false
set_option linter.unusedSimpArgs false
set_option maxHeartbeats 8000000
set_option maxRecDepth 100000
theorem zt6_4 {p : Prop} (h : p := by rw [hg];exact Nat.ne_of_gt (blk_lt (g:=gb147) (o:=.cells #[.slice (some ad149) l0_0.length c0_0] 123 (0,0)) zK_)) : p := h
theorem zt6_3 {p : Prop} (h : p := by rw [hg];exact Nat.ne_of_lt (blk_lt (g:=gb147) (o:=.cells #[.slice (some ad149) l0_0.length c0_0] 123 (0,0)) zK_)) : p := h

mutual
def spec_ExprOk.l0 : Nat → Int → List (S147) → Option (Bool)
 |0,_,_ => none
 |k + 1,x3,x148000 => if x3 < (x148000.length : Int) then (if 0 ≤ x3 then ((spec_l01In.f ((rd_T147 x148000 x3).f0) 1 11).bind fun t151 => (if t151 = true then ((spec_l04Kids.f k ((rd_T147 x148000 x3).f0)).bind fun t152 => (spec_ExprOk.j1 k x3 ((((rd_T147 x148000 x3).f3).length : Int) != t152) x148000 ((rd_T147 x148000 x3).f0) ((rd_T147 x148000 x3).f1) ((rd_T147 x148000 x3).f2) ((rd_T147 x148000 x3).f3))) else (spec_ExprOk.j1 k x3 true x148000 ((rd_T147 x148000 x3).f0) ((rd_T147 x148000 x3).f1) ((rd_T147 x148000 x3).f2) ((rd_T147 x148000 x3).f3)))) else (none)) else ((spec_l01In.f (x148000.length : Int) 1 20).bind fun t148 => (some t148))
def spec_ExprOk.j1 : Nat → Int → Bool → List (S147) → Int → Int → ByteArray → List Int → Option (Bool)
 |0,_,_,_,_,_,_,_ => none
 |k + 1,x3,x30,x148000,x151000,x151001,x151002,x151003 => if x30 = true then (some false) else (if x151000 = 1 then ((spec_l01In.f x151001 0 99).bind fun t153 => (if t153 = true then (if x151000 = 2 then ((spec_VarName.f k x151002).bind fun t154 => (if t154 = true then (spec_ExprOk.j2 k x3 false x148000 x151000 x151001 x151002 x151003) else (spec_ExprOk.j2 k x3 true x148000 x151000 x151001 x151002 x151003))) else (spec_ExprOk.j2 k x3 (x151002.toList != ([] : List UInt8)) x148000 x151000 x151001 x151002 x151003)) else (spec_ExprOk.j2 k x3 true x148000 x151000 x151001 x151002 x151003))) else (if x151001 = 0 then (if x151000 = 2 then ((spec_VarName.f k x151002).bind fun t155 => (if t155 = true then (spec_ExprOk.j2 k x3 false x148000 x151000 x151001 x151002 x151003) else (spec_ExprOk.j2 k x3 true x148000 x151000 x151001 x151002 x151003))) else (spec_ExprOk.j2 k x3 (x151002.toList != ([] : List UInt8)) x148000 x151000 x151001 x151002 x151003)) else (spec_ExprOk.j2 k x3 true x148000 x151000 x151001 x151002 x151003)))
def spec_ExprOk.j2 : Nat → Int → Bool → List (S147) → Int → Int → ByteArray → List Int → Option (Bool)
 |0,_,_,_,_,_,_,_ => none
 |k + 1,x3,x70,x148000,x151000,x151001,x151002,x151003 => if x70 = true then (some false) else (spec_ExprOk.l1 k x3 0 x148000 x151000 x151001 x151002 x151003)
def spec_ExprOk.l1 : Nat → Int → Int → List (S147) → Int → Int → ByteArray → List Int → Option (Bool)
 |0,_,_,_,_,_,_,_ => none
 |k + 1,x3,x5,x148000,x151000,x151001,x151002,x151003 => if x5 < (x151003.length : Int) then (if 0 ≤ x5 then ((spec_l01In.f (rd x151003 x5) 0 (wrap64 (x3 - 1))).bind fun t157 => (if t157 = true then (spec_ExprOk.l1 k x3 (wrap64 (x5 + 1)) x148000 x151000 x151001 x151002 x151003) else (some false))) else (none)) else (spec_ExprOk.l0 k (wrap64 (x3 + 1)) x148000)
end
def spec_ExprOk.f (k : Nat) (l0_0 : List (S147)) : Option (Bool):=spec_ExprOk.l0 k 0 l0_0
theorem spec_ExprOk.calls (k : Nat) (A0_0 : Option Addr) (c0_0 : Nat) (l0_0 : List (S147)) (r : Bool) (w : World) (hr0_0 : Kd.C k147 w A0_0 l0_0.length l0_0) (hc0_0 : l0_0.length ≤ c0_0) (h : spec_ExprOk.f k l0_0 = some r) :
  Calls Tryz.prog 104 #[.agg #[.slice A0_0 l0_0.length c0_0]] w fun e w' => e = .returned (.bool r) ∧ Below w.heap.size w w':=by
 have hu123:=Tryz.underlying123
 have hu147:=Tryz.underlying147
 have HR0_0:=zm_ hr0_0
 have HC0_0:=zm_ hc0_0
 clear hr0_0 hc0_0
 have HB:=zm_ (Below.refl w.heap.size w)
 have H : (spec_ExprOk.l0 k 0 l0_0) = some r:=h
 clear h
 have H':=zm_ H
 clear H
 go_enter Tryz.func104,Tryz.ntmps104
 go_wp2_with (first|((with_reducible refine gate_dst (N:=1) rfl ?_);(try (refine gate_guard (by rfl) ?_;dsimp only));refine box_event ?hg (N:=1) ?hd (cs:=#[.slice A0_0 l0_0.length c0_0]) (t:=123) ?hr ?_;(case hd => rfl);(case hg => rfl);(case hr => first|(go_simp;done)|(go_simp;rfl));intro gb147 hg w2 hbox hb;have n0_:=zm_ (below_step zB_ hb);have n1_:=zm_ (hbox);have n2_:=zm_ ((by rw [hg];exact (below_size zB_) : w.heap.size ≤ gb147));have n3_:=zm_ ((by rw [hg];exact (below_size zB_) : w.heap.size ≤ gb147));clear HB;have HB:=n0_;have BK147:=n1_;have GW147:=n2_;have GE147:=n3_;clear n0_ n1_ n2_ n3_;clear hb hbox hg))
 repeat (go_quiet (first|((with_reducible refine gate_dst (N:=1) rfl ?_);(try (refine gate_guard (by rfl) ?_;dsimp only));refine box_event ?hg (N:=1) ?hd (cs:=#[.slice A0_0 l0_0.length c0_0]) (t:=123) ?hr ?_;(case hd => rfl);(case hg => rfl);(case hr => first|(go_simp;done)|(go_simp;rfl));intro gb147 hg w2 hbox hb;have n0_:=zm_ (below_step zB_ hb);have n1_:=zm_ (hbox);have n2_:=zm_ ((by rw [hg];exact (below_size zB_) : w.heap.size ≤ gb147));have n3_:=zm_ ((by rw [hg];exact (below_size zB_) : w.heap.size ≤ gb147));clear HB;have HB:=n0_;have BK147:=n1_;have GW147:=n2_;have GE147:=n3_;clear n0_ n1_ n2_ n3_;clear hb hbox hg));try go_wp2_with (first|((with_reducible refine gate_dst (N:=1) rfl ?_);(try (refine gate_guard (by rfl) ?_;dsimp only));refine box_event ?hg (N:=1) ?hd (cs:=#[.slice A0_0 l0_0.length c0_0]) (t:=123) ?hr ?_;(case hd => rfl);(case hg => rfl);(case hr => first|(go_simp;done)|(go_simp;rfl));intro gb147 hg w2 hbox hb;have n0_:=zm_ (below_step zB_ hb);have n1_:=zm_ (hbox);have n2_:=zm_ ((by rw [hg];exact (below_size zB_) : w.heap.size ≤ gb147));have n3_:=zm_ ((by rw [hg];exact (below_size zB_) : w.heap.size ≤ gb147));clear HB;have HB:=n0_;have BK147:=n1_;have GW147:=n2_;have GE147:=n3_;clear n0_ n1_ n2_ n3_;clear hb hbox hg)))
 go_loopg [3] k (fun kq v3 w' => ∃ (x3_1 : Int),v3 = .int .i64 x3_1 ∧ Aside0 (spec_ExprOk.l0 kq x3_1 l0_0 = some r) ∧ Aside0 (kq ≤ k) ∧ Aside0 (w'.heap[gb147]? = some (.cells #[(.slice A0_0 l0_0.length c0_0)] 123 (0,0))) ∧ Aside0 (Below w.heap.size w w'))
 case atStart => exact ⟨(0),zV_,H',⟨Nat.le_refl _⟩,⟨zK_⟩,⟨zG_⟩⟩
 case round =>
  clear H'
  obtain ⟨x3_1,rfl,HA,HK1,BK147,HB⟩:=hrel
  cases gk with
  |zero => exact absurd HA.out (by simp [spec_ExprOk.l0])
  |succ k1 =>
   have H:=HA.out
   clear HA
   simp only [spec_ExprOk.l0] at H
   by_cases c3 : x3_1 < (l0_0.length : Int)
   rotate_left
   ·rw [if_neg c3] at H
    have c3b0:=decide_eq_false c3
    clear c3
    obtain ⟨t148,A56,H⟩:=zJ_ H
    try dsimp only at H
    obtain rfl:=zi_ H
    have hcz57_0 : wr.cell? ⟨gb147,0,none⟩ = some (.slice A0_0 l0_0.length c0_0):=(zc_ BK147.out 0).trans rfl
    have hfz57_0:=zf_ BK147.out 0
    go_wp2_with (first|(go_at_call 16;(with_reducible refine (spec_l01In.calls (l0_0.length : Int) 1 20 t148 _ A56.out).mono ?_);rintro e w' ⟨rfl,⟨nd,rfl⟩⟩;(try exact zY_)))
    repeat (go_quiet (first|(go_at_call 16;(with_reducible refine (spec_l01In.calls (l0_0.length : Int) 1 20 t148 _ A56.out).mono ?_);rintro e w' ⟨rfl,⟨nd,rfl⟩⟩;(try exact zY_)));try go_wp2_with (first|(go_at_call 16;(with_reducible refine (spec_l01In.calls (l0_0.length : Int) 1 20 t148 _ A56.out).mono ?_);rintro e w' ⟨rfl,⟨nd,rfl⟩⟩;(try exact zY_))))
    go_ret
    exact ⟨zE_,zG_⟩


   rw [if_pos c3] at H
   have c3b0:=decide_eq_true c3
   clear c3
   by_cases c4 : 0 ≤ x3_1
   rotate_left
   ·rw [if_neg c4] at H
    cases H
   rw [if_pos c4] at H
   have c4b0:=decide_eq_true c4
   clear c4
   have HC5:=zm_ H
   clear H
   have hcz6_0 : wr.cell? ⟨gb147,0,none⟩ = some (.slice A0_0 l0_0.length c0_0):=(zc_ BK147.out 0).trans rfl
   have hfz6_0:=zf_ BK147.out 0
   have p149 : 0 ≤ (x3_1 : Int):=zo_
   have q149 : x3_1 < (l0_0.length : Int):=zo_
   obtain ⟨ad149,A149_3,c149_3,e149,hx149_0,hx149_1,hx149_2,hx149_3,hl149_3,hi149_3⟩:=at_T147 HR0_0.out x3_1 p149 q149
   cases e149
   replace hx149_0:=(HB.out.cell (zb_ w _ hx149_0)).trans hx149_0
   replace hx149_1:=(HB.out.cell (zb_ w _ hx149_1)).trans hx149_1
   replace hx149_2:=(HB.out.cell (zb_ w _ hx149_2)).trans hx149_2
   replace hx149_3:=(HB.out.cell (zb_ w _ hx149_3)).trans hx149_3
   have HR149_3:=zm_ hi149_3
   have HC149_3:=zm_ hl149_3
   clear hi149_3 hl149_3
   replace p149:=eq_true p149
   replace q149:=eq_true q149
   go_upto_region 5 with (first|((with_reducible refine gate_dst (N:=4) rfl ?_);(try (refine gate_guard (by rfl) ?_;dsimp only));refine box_event ?hg (N:=4) ?hd (cs:=#[.int .i64 0,.int .i64 0,.string (⟨#[]⟩ : ByteArray),.slice none 0 0]) (t:=147) ?hr ?_;(case hd => rfl);(case hg => rfl);(case hr => first|(go_simp;done)|(go_simp;rfl));intro gb150 hg w7 hbox hb;have n0_:=zm_ (blk_below (g:=gb147) (o:=.cells #[.slice (some ad149) l0_0.length c0_0] 123 (0,0)) zK_ hb);have n1_:=zm_ (below_step zG_ hb);have n2_:=zm_ (hbox);have n3_:=zm_ ((by rw [hg];exact (below_size zG_) : w.heap.size ≤ gb150));have n4_:=zm_ ((by rw [hg];exact (below_size zG_) : w.heap.size ≤ gb150));have n5_:=zm_ ((zt6_3 : gb147 ≠ gb150));have n6_:=zm_ ((zt6_4 : gb150 ≠ gb147));clear BK147;clear HB;have BK147:=n0_;have HB:=n1_;have BK150:=n2_;have GW150:=n3_;have GE150:=n4_;have NB147_150:=n5_;have NB150_147:=n6_;clear n0_ n1_ n2_ n3_ n4_ n5_ n6_;clear hb hbox hg;have hnb8:=NB150_147.out;have hnc8:=NB147_150.out;have hcz9_0 : w7.cell? ⟨gb150,0,none⟩ = some (.int .i64 0):=(zc_ BK150.out 0).trans rfl;have hcz9_1 : w7.cell? ⟨gb150,1,none⟩ = some (.int .i64 0):=(zc_ BK150.out 1).trans rfl;have hcz9_2 : w7.cell? ⟨gb150,2,none⟩ = some (.string (⟨#[]⟩ : ByteArray)):=(zc_ BK150.out 2).trans rfl;have hcz9_3 : w7.cell? ⟨gb150,3,none⟩ = some (.slice none 0 0):=(zc_ BK150.out 3).trans rfl;have hfz9_0:=zf_ BK150.out 0;have hfz9_1:=zf_ BK150.out 1;have hfz9_2:=zf_ BK150.out 2;have hfz9_3:=zf_ BK150.out 3))
   repeat (go_quiet (first|((with_reducible refine gate_dst (N:=4) rfl ?_);(try (refine gate_guard (by rfl) ?_;dsimp only));refine box_event ?hg (N:=4) ?hd (cs:=#[.int .i64 0,.int .i64 0,.string (⟨#[]⟩ : ByteArray),.slice none 0 0]) (t:=147) ?hr ?_;(case hd => rfl);(case hg => rfl);(case hr => first|(go_simp;done)|(go_simp;rfl));intro gb150 hg w7 hbox hb;have n0_:=zm_ (blk_below (g:=gb147) (o:=.cells #[.slice (some ad149) l0_0.length c0_0] 123 (0,0)) zK_ hb);have n1_:=zm_ (below_step zG_ hb);have n2_:=zm_ (hbox);have n3_:=zm_ ((by rw [hg];exact (below_size zG_) : w.heap.size ≤ gb150));have n4_:=zm_ ((by rw [hg];exact (below_size zG_) : w.heap.size ≤ gb150));have n5_:=zm_ ((zt6_3 : gb147 ≠ gb150));have n6_:=zm_ ((zt6_4 : gb150 ≠ gb147));clear BK147;clear HB;have BK147:=n0_;have HB:=n1_;have BK150:=n2_;have GW150:=n3_;have GE150:=n4_;have NB147_150:=n5_;have NB150_147:=n6_;clear n0_ n1_ n2_ n3_ n4_ n5_ n6_;clear hb hbox hg;have hnb8:=NB150_147.out;have hnc8:=NB147_150.out;have hcz9_0 : w7.cell? ⟨gb150,0,none⟩ = some (.int .i64 0):=(zc_ BK150.out 0).trans rfl;have hcz9_1 : w7.cell? ⟨gb150,1,none⟩ = some (.int .i64 0):=(zc_ BK150.out 1).trans rfl;have hcz9_2 : w7.cell? ⟨gb150,2,none⟩ = some (.string (⟨#[]⟩ : ByteArray)):=(zc_ BK150.out 2).trans rfl;have hcz9_3 : w7.cell? ⟨gb150,3,none⟩ = some (.slice none 0 0):=(zc_ BK150.out 3).trans rfl;have hfz9_0:=zf_ BK150.out 0;have hfz9_1:=zf_ BK150.out 1;have hfz9_2:=zf_ BK150.out 2;have hfz9_3:=zf_ BK150.out 3));go_upto_region 5 with (first|((with_reducible refine gate_dst (N:=4) rfl ?_);(try (refine gate_guard (by rfl) ?_;dsimp only));refine box_event ?hg (N:=4) ?hd (cs:=#[.int .i64 0,.int .i64 0,.string (⟨#[]⟩ : ByteArray),.slice none 0 0]) (t:=147) ?hr ?_;(case hd => rfl);(case hg => rfl);(case hr => first|(go_simp;done)|(go_simp;rfl));intro gb150 hg w7 hbox hb;have n0_:=zm_ (blk_below (g:=gb147) (o:=.cells #[.slice (some ad149) l0_0.length c0_0] 123 (0,0)) zK_ hb);have n1_:=zm_ (below_step zG_ hb);have n2_:=zm_ (hbox);have n3_:=zm_ ((by rw [hg];exact (below_size zG_) : w.heap.size ≤ gb150));have n4_:=zm_ ((by rw [hg];exact (below_size zG_) : w.heap.size ≤ gb150));have n5_:=zm_ ((zt6_3 : gb147 ≠ gb150));have n6_:=zm_ ((zt6_4 : gb150 ≠ gb147));clear BK147;clear HB;have BK147:=n0_;have HB:=n1_;have BK150:=n2_;have GW150:=n3_;have GE150:=n4_;have NB147_150:=n5_;have NB150_147:=n6_;clear n0_ n1_ n2_ n3_ n4_ n5_ n6_;clear hb hbox hg;have hnb8:=NB150_147.out;have hnc8:=NB147_150.out;have hcz9_0 : w7.cell? ⟨gb150,0,none⟩ = some (.int .i64 0):=(zc_ BK150.out 0).trans rfl;have hcz9_1 : w7.cell? ⟨gb150,1,none⟩ = some (.int .i64 0):=(zc_ BK150.out 1).trans rfl;have hcz9_2 : w7.cell? ⟨gb150,2,none⟩ = some (.string (⟨#[]⟩ : ByteArray)):=(zc_ BK150.out 2).trans rfl;have hcz9_3 : w7.cell? ⟨gb150,3,none⟩ = some (.slice none 0 0):=(zc_ BK150.out 3).trans rfl;have hfz9_0:=zf_ BK150.out 0;have hfz9_1:=zf_ BK150.out 1;have hfz9_2:=zf_ BK150.out 2;have hfz9_3:=zf_ BK150.out 3)))
   (try simp only [Act.put,List.setIfInBounds_toArray,List.set_cons_zero,List.set_cons_succ])
   go_cut [30] (fun v30 wc => ∃ (kq : Nat) (x30_4 : Bool),v30 = .bool x30_4 ∧ Aside0 (spec_ExprOk.j1 kq x3_1 x30_4 l0_0 ((rd_T147 l0_0 x3_1).f0) ((rd_T147 l0_0 x3_1).f1) ((rd_T147 l0_0 x3_1).f2) ((rd_T147 l0_0 x3_1).f3) = some r) ∧ Aside0 (kq ≤ k1) ∧ Aside0 (wc.heap[gb147]? = some (.cells #[(.slice (some ad149) l0_0.length c0_0)] 123 (0,0))) ∧ Aside0 (wc.heap[gb150]? = some (.cells #[.int .i64 ((rd_T147 l0_0 x3_1).f0),.int .i64 ((rd_T147 l0_0 x3_1).f1),.string ((rd_T147 l0_0 x3_1).f2),(.slice A149_3 ((rd_T147 l0_0 x3_1).f3).length c149_3)] 147 (0,0))) ∧ Aside0 (Below w.heap.size w wc))
   case first =>
    have H:=HC5.out
    clear HC5
    obtain ⟨t151,A10,H⟩:=zJ_ H
    try dsimp only at H
    by_cases c11 : t151 = true
    rotate_left
    ·replace c11:=Bool.eq_false_iff.mpr c11
     subst c11
     rw [zF_] at H
     have H':=zm_ H
     clear H
     have hnb15:=NB150_147.out
     have hnc15:=NB147_150.out
     have hcz16_0 : w7.cell? ⟨gb150,0,none⟩ = some (.int .i64 0):=(zc_ BK150.out 0).trans rfl
     have hcz16_1 : w7.cell? ⟨gb150,1,none⟩ = some (.int .i64 0):=(zc_ BK150.out 1).trans rfl
     have hcz16_2 : w7.cell? ⟨gb150,2,none⟩ = some (.string (⟨#[]⟩ : ByteArray)):=(zc_ BK150.out 2).trans rfl
     have hcz16_3 : w7.cell? ⟨gb150,3,none⟩ = some (.slice none 0 0):=(zc_ BK150.out 3).trans rfl
     have hfz16_0:=zf_ BK150.out 0
     have hfz16_1:=zf_ BK150.out 1
     have hfz16_2:=zf_ BK150.out 2
     have hfz16_3:=zf_ BK150.out 3
     go_wp2_with (first|(go_at_call 16;(with_reducible refine (spec_l01In.calls ((rd_T147 l0_0 x3_1).f0) 1 11 false _ A10.out).mono ?_);rintro e w' ⟨rfl,⟨nd,rfl⟩⟩;(try exact zY_)))
     repeat (go_quiet (first|(go_at_call 16;(with_reducible refine (spec_l01In.calls ((rd_T147 l0_0 x3_1).f0) 1 11 false _ A10.out).mono ?_);rintro e w' ⟨rfl,⟨nd,rfl⟩⟩;(try exact zY_)));try go_wp2_with (first|(go_at_call 16;(with_reducible refine (spec_l01In.calls ((rd_T147 l0_0 x3_1).f0) 1 11 false _ A10.out).mono ?_);rintro e w' ⟨rfl,⟨nd,rfl⟩⟩;(try exact zY_))))
     go_meet
     case rel => exact ⟨_,(true),zV_,H',⟨by have:=HK1.out;first|omega|exact Nat.le_refl _⟩,⟨by (with_reducible repeat first|refine zl_ ?_ _|refine zr_ ?_|refine zk_ ?_ _);refine blk_far ?_ NB147_150.out _;(with_reducible repeat first|refine zl_ ?_ _|refine zr_ ?_|refine zk_ ?_ _);refine blk_far ?_ NB147_150.out _;(with_reducible repeat first|refine zl_ ?_ _|refine zr_ ?_|refine zk_ ?_ _);refine blk_far ?_ NB147_150.out _;(with_reducible repeat first|refine zl_ ?_ _|refine zr_ ?_|refine zk_ ?_ _);refine blk_far ?_ NB147_150.out _;(with_reducible repeat first|refine zl_ ?_ _|refine zr_ ?_|refine zk_ ?_ _);exact BK147.out⟩,⟨by (with_reducible repeat first|refine zl_ ?_ _|refine zr_ ?_|refine zk_ ?_ _);refine blk_put (cs:=#[.int .i64 ((rd_T147 l0_0 x3_1).f0),.int .i64 ((rd_T147 l0_0 x3_1).f1),.string ((rd_T147 l0_0 x3_1).f2),.slice none 0 0]) ?_ 3 _ rfl;(with_reducible repeat first|refine zl_ ?_ _|refine zr_ ?_|refine zk_ ?_ _);refine blk_put (cs:=#[.int .i64 ((rd_T147 l0_0 x3_1).f0),.int .i64 ((rd_T147 l0_0 x3_1).f1),.string (⟨#[]⟩ : ByteArray),.slice none 0 0]) ?_ 2 _ rfl;(with_reducible repeat first|refine zl_ ?_ _|refine zr_ ?_|refine zk_ ?_ _);refine blk_put (cs:=#[.int .i64 ((rd_T147 l0_0 x3_1).f0),.int .i64 0,.string (⟨#[]⟩ : ByteArray),.slice none 0 0]) ?_ 1 _ rfl;(with_reducible repeat first|refine zl_ ?_ _|refine zr_ ?_|refine zk_ ?_ _);refine blk_put (cs:=#[.int .i64 0,.int .i64 0,.string (⟨#[]⟩ : ByteArray),.slice none 0 0]) ?_ 0 _ rfl;(with_reducible repeat first|refine zl_ ?_ _|refine zr_ ?_|refine zk_ ?_ _);exact BK150.out⟩,⟨zG_⟩⟩
    subst c11
    rw [if_pos rfl] at H
    obtain ⟨t152,A12,H⟩:=zJ_ H
    try dsimp only at H
    have H':=zm_ H
    clear H
    have hnb13:=NB150_147.out
    have hnc13:=NB147_150.out
    have hcz14_0 : w7.cell? ⟨gb150,0,none⟩ = some (.int .i64 0):=(zc_ BK150.out 0).trans rfl
    have hcz14_1 : w7.cell? ⟨gb150,1,none⟩ = some (.int .i64 0):=(zc_ BK150.out 1).trans rfl
    have hcz14_2 : w7.cell? ⟨gb150,2,none⟩ = some (.string (⟨#[]⟩ : ByteArray)):=(zc_ BK150.out 2).trans rfl
    have hcz14_3 : w7.cell? ⟨gb150,3,none⟩ = some (.slice none 0 0):=(zc_ BK150.out 3).trans rfl
    have hfz14_0:=zf_ BK150.out 0
    have hfz14_1:=zf_ BK150.out 1
    have hfz14_2:=zf_ BK150.out 2
    have hfz14_3:=zf_ BK150.out 3
    go_wp2_with (first|(go_at_call 16;(with_reducible refine (spec_l01In.calls ((rd_T147 l0_0 x3_1).f0) 1 11 true _ A10.out).mono ?_);rintro e w' ⟨rfl,⟨nd,rfl⟩⟩;(try exact zY_))|(go_at_call 128;(with_reducible refine (spec_l04Kids.calls k1 ((rd_T147 l0_0 x3_1).f0) t152 _ A12.out).mono ?_);rintro e w' ⟨rfl,⟨nd,rfl⟩⟩;(try exact zY_)))
    repeat (go_quiet (first|(go_at_call 16;(with_reducible refine (spec_l01In.calls ((rd_T147 l0_0 x3_1).f0) 1 11 true _ A10.out).mono ?_);rintro e w' ⟨rfl,⟨nd,rfl⟩⟩;(try exact zY_))|(go_at_call 128;(with_reducible refine (spec_l04Kids.calls k1 ((rd_T147 l0_0 x3_1).f0) t152 _ A12.out).mono ?_);rintro e w' ⟨rfl,⟨nd,rfl⟩⟩;(try exact zY_)));try go_wp2_with (first|(go_at_call 16;(with_reducible refine (spec_l01In.calls ((rd_T147 l0_0 x3_1).f0) 1 11 true _ A10.out).mono ?_);rintro e w' ⟨rfl,⟨nd,rfl⟩⟩;(try exact zY_))|(go_at_call 128;(with_reducible refine (spec_l04Kids.calls k1 ((rd_T147 l0_0 x3_1).f0) t152 _ A12.out).mono ?_);rintro e w' ⟨rfl,⟨nd,rfl⟩⟩;(try exact zY_))))
    go_meet
    case rel => exact ⟨_,(((((rd_T147 l0_0 x3_1).f3).length : Int) != t152)),zV_,H',⟨by have:=HK1.out;first|omega|exact Nat.le_refl _⟩,⟨by (with_reducible repeat first|refine zl_ ?_ _|refine zr_ ?_|refine zk_ ?_ _);refine blk_far ?_ NB147_150.out _;(with_reducible repeat first|refine zl_ ?_ _|refine zr_ ?_|refine zk_ ?_ _);refine blk_far ?_ NB147_150.out _;(with_reducible repeat first|refine zl_ ?_ _|refine zr_ ?_|refine zk_ ?_ _);refine blk_far ?_ NB147_150.out _;(with_reducible repeat first|refine zl_ ?_ _|refine zr_ ?_|refine zk_ ?_ _);refine blk_far ?_ NB147_150.out _;(with_reducible repeat first|refine zl_ ?_ _|refine zr_ ?_|refine zk_ ?_ _);exact BK147.out⟩,⟨by (with_reducible repeat first|refine zl_ ?_ _|refine zr_ ?_|refine zk_ ?_ _);refine blk_put (cs:=#[.int .i64 ((rd_T147 l0_0 x3_1).f0),.int .i64 ((rd_T147 l0_0 x3_1).f1),.string ((rd_T147 l0_0 x3_1).f2),.slice none 0 0]) ?_ 3 _ rfl;(with_reducible repeat first|refine zl_ ?_ _|refine zr_ ?_|refine zk_ ?_ _);refine blk_put (cs:=#[.int .i64 ((rd_T147 l0_0 x3_1).f0),.int .i64 ((rd_T147 l0_0 x3_1).f1),.string (⟨#[]⟩ : ByteArray),.slice none 0 0]) ?_ 2 _ rfl;(with_reducible repeat first|refine zl_ ?_ _|refine zr_ ?_|refine zk_ ?_ _);refine blk_put (cs:=#[.int .i64 ((rd_T147 l0_0 x3_1).f0),.int .i64 0,.string (⟨#[]⟩ : ByteArray),.slice none 0 0]) ?_ 1 _ rfl;(with_reducible repeat first|refine zl_ ?_ _|refine zr_ ?_|refine zk_ ?_ _);refine blk_put (cs:=#[.int .i64 0,.int .i64 0,.string (⟨#[]⟩ : ByteArray),.slice none 0 0]) ?_ 0 _ rfl;(with_reducible repeat first|refine zl_ ?_ _|refine zr_ ?_|refine zk_ ?_ _);exact BK150.out⟩,⟨zG_⟩⟩
   case rest =>
    clear HC5
    obtain ⟨kq,x30_4,rfl,HA,HJ4,BK147,BK150,HB⟩:=hcut
    cases kq with
    |zero => exact absurd HA.out (by simp [spec_ExprOk.j1])
    |succ kj4 =>
     have H:=HA.out
     clear HA
     simp only [spec_ExprOk.j1] at H
     by_cases c17 : x30_4 = true
     ·subst c17
      rw [if_pos rfl] at H
      obtain rfl:=zi_ H
      go_wp2
      repeat (go_quiet (fail);try go_wp2)
      go_ret
      exact ⟨zE_,zG_⟩
     replace c17:=Bool.eq_false_iff.mpr c17
     subst c17
     rw [zF_] at H
     have HC18:=zm_ H
     clear H
     go_upto_region 7 with (fail)
     repeat (go_quiet (fail);go_upto_region 7 with (fail))
     go_cut [70] (fun v70 wc => ∃ (kq : Nat) (x70_17 : Bool),v70 = .bool x70_17 ∧ Aside0 (spec_ExprOk.j2 kq x3_1 x70_17 l0_0 ((rd_T147 l0_0 x3_1).f0) ((rd_T147 l0_0 x3_1).f1) ((rd_T147 l0_0 x3_1).f2) ((rd_T147 l0_0 x3_1).f3) = some r) ∧ Aside0 (kq ≤ kj4) ∧ Aside0 (wc.heap[gb147]? = some (.cells #[(.slice (some ad149) l0_0.length c0_0)] 123 (0,0))) ∧ Aside0 (wc.heap[gb150]? = some (.cells #[.int .i64 ((rd_T147 l0_0 x3_1).f0),.int .i64 ((rd_T147 l0_0 x3_1).f1),.string ((rd_T147 l0_0 x3_1).f2),(.slice A149_3 ((rd_T147 l0_0 x3_1).f3).length c149_3)] 147 (0,0))) ∧ Aside0 (Below w.heap.size w wc))
     case first =>
      have H:=HC18.out
      clear HC18
      by_cases c19 : ((rd_T147 l0_0 x3_1).f0) = 1
      rotate_left
      ·rw [if_neg c19] at H
       have c19b0 : (((rd_T147 l0_0 x3_1).f0) == 1) = false:=beq_eq_false_iff_ne.mpr c19
       have c19b1 : (((rd_T147 l0_0 x3_1).f0) != 1) = true:=bne_iff_ne.mpr c19
       (first|rw [c19b0]|(simp only [i64_w,i32_w];rw [c19b0])|skip)
       by_cases c33 : ((rd_T147 l0_0 x3_1).f1) = 0
       rotate_left
       ·rw [if_neg c33] at H
        have c33b0 : (((rd_T147 l0_0 x3_1).f1) == 0) = false:=beq_eq_false_iff_ne.mpr c33
        have c33b1 : (((rd_T147 l0_0 x3_1).f1) != 0) = true:=bne_iff_ne.mpr c33
        have H':=zm_ H
        clear H
        have hnb43:=NB150_147.out
        have hnc43:=NB147_150.out
        have hcz44_0 : wc.cell? ⟨gb150,0,none⟩ = some (.int .i64 ((rd_T147 l0_0 x3_1).f0)):=(zc_ BK150.out 0).trans rfl
        have hcz44_1 : wc.cell? ⟨gb150,1,none⟩ = some (.int .i64 ((rd_T147 l0_0 x3_1).f1)):=(zc_ BK150.out 1).trans rfl
        have hcz44_2 : wc.cell? ⟨gb150,2,none⟩ = some (.string ((rd_T147 l0_0 x3_1).f2)):=(zc_ BK150.out 2).trans rfl
        have hcz44_3 : wc.cell? ⟨gb150,3,none⟩ = some (.slice A149_3 ((rd_T147 l0_0 x3_1).f3).length c149_3):=(zc_ BK150.out 3).trans rfl
        have hfz44_0:=zf_ BK150.out 0
        have hfz44_1:=zf_ BK150.out 1
        have hfz44_2:=zf_ BK150.out 2
        have hfz44_3:=zf_ BK150.out 3
        go_wp2
        repeat (go_quiet (fail);try go_wp2)
        go_meet
        case rel => exact ⟨_,(true),zV_,H',⟨by have:=HK1.out;have:=HJ4.out;first|omega|exact Nat.le_refl _⟩,⟨zK_⟩,⟨zK_⟩,⟨zG_⟩⟩
       rw [if_pos c33] at H
       have c33b0 : (((rd_T147 l0_0 x3_1).f1) == 0) = true:=beq_iff_eq.mpr c33
       have c33b1 : (((rd_T147 l0_0 x3_1).f1) != 0) = false:=bne_eq_false_iff_eq.mpr c33
       clear c33
       by_cases c34 : ((rd_T147 l0_0 x3_1).f0) = 2
       rotate_left
       ·rw [if_neg c34] at H
        have c34b0 : (((rd_T147 l0_0 x3_1).f0) == 2) = false:=beq_eq_false_iff_ne.mpr c34
        have c34b1 : (((rd_T147 l0_0 x3_1).f0) != 2) = true:=bne_iff_ne.mpr c34
        have H':=zm_ H
        clear H
        have hnb41:=NB150_147.out
        have hnc41:=NB147_150.out
        have hcz42_0 : wc.cell? ⟨gb150,0,none⟩ = some (.int .i64 ((rd_T147 l0_0 x3_1).f0)):=(zc_ BK150.out 0).trans rfl
        have hcz42_1 : wc.cell? ⟨gb150,1,none⟩ = some (.int .i64 ((rd_T147 l0_0 x3_1).f1)):=(zc_ BK150.out 1).trans rfl
        have hcz42_2 : wc.cell? ⟨gb150,2,none⟩ = some (.string ((rd_T147 l0_0 x3_1).f2)):=(zc_ BK150.out 2).trans rfl
        have hcz42_3 : wc.cell? ⟨gb150,3,none⟩ = some (.slice A149_3 ((rd_T147 l0_0 x3_1).f3).length c149_3):=(zc_ BK150.out 3).trans rfl
        have hfz42_0:=zf_ BK150.out 0
        have hfz42_1:=zf_ BK150.out 1
        have hfz42_2:=zf_ BK150.out 2
        have hfz42_3:=zf_ BK150.out 3
        go_wp2
        repeat (go_quiet (fail);try go_wp2)
        go_meet
        case rel => exact ⟨_,((((rd_T147 l0_0 x3_1).f2).toList != ([] : List UInt8))),zV_,H',⟨by have:=HK1.out;have:=HJ4.out;first|omega|exact Nat.le_refl _⟩,⟨zK_⟩,⟨zK_⟩,⟨zG_⟩⟩
       rw [if_pos c34] at H
       have c34b0 : (((rd_T147 l0_0 x3_1).f0) == 2) = true:=beq_iff_eq.mpr c34
       have c34b1 : (((rd_T147 l0_0 x3_1).f0) != 2) = false:=bne_eq_false_iff_eq.mpr c34
       clear c34
       obtain ⟨t155,A35,H⟩:=zJ_ H
       try dsimp only at H
       by_cases c36 : t155 = true
       ·subst c36
        rw [if_pos rfl] at H
        have H':=zm_ H
        clear H
        have hnb37:=NB150_147.out
        have hnc37:=NB147_150.out
        have hcz38_0 : wc.cell? ⟨gb150,0,none⟩ = some (.int .i64 ((rd_T147 l0_0 x3_1).f0)):=(zc_ BK150.out 0).trans rfl
        have hcz38_1 : wc.cell? ⟨gb150,1,none⟩ = some (.int .i64 ((rd_T147 l0_0 x3_1).f1)):=(zc_ BK150.out 1).trans rfl
        have hcz38_2 : wc.cell? ⟨gb150,2,none⟩ = some (.string ((rd_T147 l0_0 x3_1).f2)):=(zc_ BK150.out 2).trans rfl
        have hcz38_3 : wc.cell? ⟨gb150,3,none⟩ = some (.slice A149_3 ((rd_T147 l0_0 x3_1).f3).length c149_3):=(zc_ BK150.out 3).trans rfl
        have hfz38_0:=zf_ BK150.out 0
        have hfz38_1:=zf_ BK150.out 1
        have hfz38_2:=zf_ BK150.out 2
        have hfz38_3:=zf_ BK150.out 3
        go_wp2_with (first|(go_at_call 64;(with_reducible refine (spec_VarName.calls kj4 ((rd_T147 l0_0 x3_1).f2) true _ A35.out).mono ?_);rintro e w' ⟨rfl,⟨nd,rfl⟩⟩;(try exact zY_)))
        repeat (go_quiet (first|(go_at_call 64;(with_reducible refine (spec_VarName.calls kj4 ((rd_T147 l0_0 x3_1).f2) true _ A35.out).mono ?_);rintro e w' ⟨rfl,⟨nd,rfl⟩⟩;(try exact zY_)));try go_wp2_with (first|(go_at_call 64;(with_reducible refine (spec_VarName.calls kj4 ((rd_T147 l0_0 x3_1).f2) true _ A35.out).mono ?_);rintro e w' ⟨rfl,⟨nd,rfl⟩⟩;(try exact zY_))))
        go_meet
        case rel => exact ⟨_,(false),zV_,H',⟨by have:=HK1.out;have:=HJ4.out;first|omega|exact Nat.le_refl _⟩,⟨zK_⟩,⟨zK_⟩,⟨zG_⟩⟩
       replace c36:=Bool.eq_false_iff.mpr c36
       subst c36
       rw [zF_] at H
       have H':=zm_ H
       clear H
       have hnb39:=NB150_147.out
       have hnc39:=NB147_150.out
       have hcz40_0 : wc.cell? ⟨gb150,0,none⟩ = some (.int .i64 ((rd_T147 l0_0 x3_1).f0)):=(zc_ BK150.out 0).trans rfl
       have hcz40_1 : wc.cell? ⟨gb150,1,none⟩ = some (.int .i64 ((rd_T147 l0_0 x3_1).f1)):=(zc_ BK150.out 1).trans rfl
       have hcz40_2 : wc.cell? ⟨gb150,2,none⟩ = some (.string ((rd_T147 l0_0 x3_1).f2)):=(zc_ BK150.out 2).trans rfl
       have hcz40_3 : wc.cell? ⟨gb150,3,none⟩ = some (.slice A149_3 ((rd_T147 l0_0 x3_1).f3).length c149_3):=(zc_ BK150.out 3).trans rfl
       have hfz40_0:=zf_ BK150.out 0
       have hfz40_1:=zf_ BK150.out 1
       have hfz40_2:=zf_ BK150.out 2
       have hfz40_3:=zf_ BK150.out 3
       go_wp2_with (first|(go_at_call 64;(with_reducible refine (spec_VarName.calls kj4 ((rd_T147 l0_0 x3_1).f2) false _ A35.out).mono ?_);rintro e w' ⟨rfl,⟨nd,rfl⟩⟩;(try exact zY_)))
       repeat (go_quiet (first|(go_at_call 64;(with_reducible refine (spec_VarName.calls kj4 ((rd_T147 l0_0 x3_1).f2) false _ A35.out).mono ?_);rintro e w' ⟨rfl,⟨nd,rfl⟩⟩;(try exact zY_)));try go_wp2_with (first|(go_at_call 64;(with_reducible refine (spec_VarName.calls kj4 ((rd_T147 l0_0 x3_1).f2) false _ A35.out).mono ?_);rintro e w' ⟨rfl,⟨nd,rfl⟩⟩;(try exact zY_))))
       go_meet
       case rel => exact ⟨_,(true),zV_,H',⟨by have:=HK1.out;have:=HJ4.out;first|omega|exact Nat.le_refl _⟩,⟨zK_⟩,⟨zK_⟩,⟨zG_⟩⟩
      rw [if_pos c19] at H
      have c19b0 : (((rd_T147 l0_0 x3_1).f0) == 1) = true:=beq_iff_eq.mpr c19
      have c19b1 : (((rd_T147 l0_0 x3_1).f0) != 1) = false:=bne_eq_false_iff_eq.mpr c19
      clear c19
      (first|rw [c19b0]|(simp only [i64_w,i32_w];rw [c19b0])|skip)
      obtain ⟨t153,A20,H⟩:=zJ_ H
      try dsimp only at H
      by_cases c21 : t153 = true
      rotate_left
      ·replace c21:=Bool.eq_false_iff.mpr c21
       subst c21
       rw [zF_] at H
       have H':=zm_ H
       clear H
       have hnb31:=NB150_147.out
       have hnc31:=NB147_150.out
       have hcz32_0 : wc.cell? ⟨gb150,0,none⟩ = some (.int .i64 ((rd_T147 l0_0 x3_1).f0)):=(zc_ BK150.out 0).trans rfl
       have hcz32_1 : wc.cell? ⟨gb150,1,none⟩ = some (.int .i64 ((rd_T147 l0_0 x3_1).f1)):=(zc_ BK150.out 1).trans rfl
       have hcz32_2 : wc.cell? ⟨gb150,2,none⟩ = some (.string ((rd_T147 l0_0 x3_1).f2)):=(zc_ BK150.out 2).trans rfl
       have hcz32_3 : wc.cell? ⟨gb150,3,none⟩ = some (.slice A149_3 ((rd_T147 l0_0 x3_1).f3).length c149_3):=(zc_ BK150.out 3).trans rfl
       have hfz32_0:=zf_ BK150.out 0
       have hfz32_1:=zf_ BK150.out 1
       have hfz32_2:=zf_ BK150.out 2
       have hfz32_3:=zf_ BK150.out 3
       go_wp2_with (first|(go_at_call 16;(with_reducible refine (spec_l01In.calls ((rd_T147 l0_0 x3_1).f1) 0 99 false _ A20.out).mono ?_);rintro e w' ⟨rfl,⟨nd,rfl⟩⟩;(try exact zY_)))
       repeat (go_quiet (first|(go_at_call 16;(with_reducible refine (spec_l01In.calls ((rd_T147 l0_0 x3_1).f1) 0 99 false _ A20.out).mono ?_);rintro e w' ⟨rfl,⟨nd,rfl⟩⟩;(try exact zY_)));try go_wp2_with (first|(go_at_call 16;(with_reducible refine (spec_l01In.calls ((rd_T147 l0_0 x3_1).f1) 0 99 false _ A20.out).mono ?_);rintro e w' ⟨rfl,⟨nd,rfl⟩⟩;(try exact zY_))))
       go_meet
       case rel => exact ⟨_,(true),zV_,H',⟨by have:=HK1.out;have:=HJ4.out;first|omega|exact Nat.le_refl _⟩,⟨zK_⟩,⟨zK_⟩,⟨zG_⟩⟩
      subst c21
      rw [if_pos rfl] at H
      by_cases c22 : ((rd_T147 l0_0 x3_1).f0) = 2
      rotate_left
      ·rw [if_neg c22] at H
       have c22b0 : (((rd_T147 l0_0 x3_1).f0) == 2) = false:=beq_eq_false_iff_ne.mpr c22
       have c22b1 : (((rd_T147 l0_0 x3_1).f0) != 2) = true:=bne_iff_ne.mpr c22
       have H':=zm_ H
       clear H
       have hnb29:=NB150_147.out
       have hnc29:=NB147_150.out
       have hcz30_0 : wc.cell? ⟨gb150,0,none⟩ = some (.int .i64 ((rd_T147 l0_0 x3_1).f0)):=(zc_ BK150.out 0).trans rfl
       have hcz30_1 : wc.cell? ⟨gb150,1,none⟩ = some (.int .i64 ((rd_T147 l0_0 x3_1).f1)):=(zc_ BK150.out 1).trans rfl
       have hcz30_2 : wc.cell? ⟨gb150,2,none⟩ = some (.string ((rd_T147 l0_0 x3_1).f2)):=(zc_ BK150.out 2).trans rfl
       have hcz30_3 : wc.cell? ⟨gb150,3,none⟩ = some (.slice A149_3 ((rd_T147 l0_0 x3_1).f3).length c149_3):=(zc_ BK150.out 3).trans rfl
       have hfz30_0:=zf_ BK150.out 0
       have hfz30_1:=zf_ BK150.out 1
       have hfz30_2:=zf_ BK150.out 2
       have hfz30_3:=zf_ BK150.out 3
       go_wp2_with (first|(go_at_call 16;(with_reducible refine (spec_l01In.calls ((rd_T147 l0_0 x3_1).f1) 0 99 true _ A20.out).mono ?_);rintro e w' ⟨rfl,⟨nd,rfl⟩⟩;(try exact zY_)))
       repeat (go_quiet (first|(go_at_call 16;(with_reducible refine (spec_l01In.calls ((rd_T147 l0_0 x3_1).f1) 0 99 true _ A20.out).mono ?_);rintro e w' ⟨rfl,⟨nd,rfl⟩⟩;(try exact zY_)));try go_wp2_with (first|(go_at_call 16;(with_reducible refine (spec_l01In.calls ((rd_T147 l0_0 x3_1).f1) 0 99 true _ A20.out).mono ?_);rintro e w' ⟨rfl,⟨nd,rfl⟩⟩;(try exact zY_))))
       go_meet
       case rel => exact ⟨_,((((rd_T147 l0_0 x3_1).f2).toList != ([] : List UInt8))),zV_,H',⟨by have:=HK1.out;have:=HJ4.out;first|omega|exact Nat.le_refl _⟩,⟨zK_⟩,⟨zK_⟩,⟨zG_⟩⟩
      rw [if_pos c22] at H
      have c22b0 : (((rd_T147 l0_0 x3_1).f0) == 2) = true:=beq_iff_eq.mpr c22
      have c22b1 : (((rd_T147 l0_0 x3_1).f0) != 2) = false:=bne_eq_false_iff_eq.mpr c22
      clear c22
      obtain ⟨t154,A23,H⟩:=zJ_ H
      try dsimp only at H
      by_cases c24 : t154 = true
      ·subst c24
       rw [if_pos rfl] at H
       have H':=zm_ H
       clear H
       have hnb25:=NB150_147.out
       have hnc25:=NB147_150.out
       have hcz26_0 : wc.cell? ⟨gb150,0,none⟩ = some (.int .i64 ((rd_T147 l0_0 x3_1).f0)):=(zc_ BK150.out 0).trans rfl
       have hcz26_1 : wc.cell? ⟨gb150,1,none⟩ = some (.int .i64 ((rd_T147 l0_0 x3_1).f1)):=(zc_ BK150.out 1).trans rfl
       have hcz26_2 : wc.cell? ⟨gb150,2,none⟩ = some (.string ((rd_T147 l0_0 x3_1).f2)):=(zc_ BK150.out 2).trans rfl
       have hcz26_3 : wc.cell? ⟨gb150,3,none⟩ = some (.slice A149_3 ((rd_T147 l0_0 x3_1).f3).length c149_3):=(zc_ BK150.out 3).trans rfl
       have hfz26_0:=zf_ BK150.out 0
       have hfz26_1:=zf_ BK150.out 1
       have hfz26_2:=zf_ BK150.out 2
       have hfz26_3:=zf_ BK150.out 3
       go_wp2_with (first|(go_at_call 16;(with_reducible refine (spec_l01In.calls ((rd_T147 l0_0 x3_1).f1) 0 99 true _ A20.out).mono ?_);rintro e w' ⟨rfl,⟨nd,rfl⟩⟩;(try exact zY_))|(go_at_call 64;(with_reducible refine (spec_VarName.calls kj4 ((rd_T147 l0_0 x3_1).f2) true _ A23.out).mono ?_);rintro e w' ⟨rfl,⟨nd,rfl⟩⟩;(try exact zY_)))
       repeat (go_quiet (first|(go_at_call 16;(with_reducible refine (spec_l01In.calls ((rd_T147 l0_0 x3_1).f1) 0 99 true _ A20.out).mono ?_);rintro e w' ⟨rfl,⟨nd,rfl⟩⟩;(try exact zY_))|(go_at_call 64;(with_reducible refine (spec_VarName.calls kj4 ((rd_T147 l0_0 x3_1).f2) true _ A23.out).mono ?_);rintro e w' ⟨rfl,⟨nd,rfl⟩⟩;(try exact zY_)));try go_wp2_with (first|(go_at_call 16;(with_reducible refine (spec_l01In.calls ((rd_T147 l0_0 x3_1).f1) 0 99 true _ A20.out).mono ?_);rintro e w' ⟨rfl,⟨nd,rfl⟩⟩;(try exact zY_))|(go_at_call 64;(with_reducible refine (spec_VarName.calls kj4 ((rd_T147 l0_0 x3_1).f2) true _ A23.out).mono ?_);rintro e w' ⟨rfl,⟨nd,rfl⟩⟩;(try exact zY_))))
       go_meet
       case rel => exact ⟨_,(false),zV_,H',⟨by have:=HK1.out;have:=HJ4.out;first|omega|exact Nat.le_refl _⟩,⟨zK_⟩,⟨zK_⟩,⟨zG_⟩⟩
      replace c24:=Bool.eq_false_iff.mpr c24
      subst c24
      rw [zF_] at H
      have H':=zm_ H
      clear H
      have hnb27:=NB150_147.out
      have hnc27:=NB147_150.out
      have hcz28_0 : wc.cell? ⟨gb150,0,none⟩ = some (.int .i64 ((rd_T147 l0_0 x3_1).f0)):=(zc_ BK150.out 0).trans rfl
      have hcz28_1 : wc.cell? ⟨gb150,1,none⟩ = some (.int .i64 ((rd_T147 l0_0 x3_1).f1)):=(zc_ BK150.out 1).trans rfl
      have hcz28_2 : wc.cell? ⟨gb150,2,none⟩ = some (.string ((rd_T147 l0_0 x3_1).f2)):=(zc_ BK150.out 2).trans rfl
      have hcz28_3 : wc.cell? ⟨gb150,3,none⟩ = some (.slice A149_3 ((rd_T147 l0_0 x3_1).f3).length c149_3):=(zc_ BK150.out 3).trans rfl
      have hfz28_0:=zf_ BK150.out 0
      have hfz28_1:=zf_ BK150.out 1
      have hfz28_2:=zf_ BK150.out 2
      have hfz28_3:=zf_ BK150.out 3
      go_wp2_with (first|(go_at_call 16;(with_reducible refine (spec_l01In.calls ((rd_T147 l0_0 x3_1).f1) 0 99 true _ A20.out).mono ?_);rintro e w' ⟨rfl,⟨nd,rfl⟩⟩;(try exact zY_))|(go_at_call 64;(with_reducible refine (spec_VarName.calls kj4 ((rd_T147 l0_0 x3_1).f2) false _ A23.out).mono ?_);rintro e w' ⟨rfl,⟨nd,rfl⟩⟩;(try exact zY_)))
      repeat (go_quiet (first|(go_at_call 16;(with_reducible refine (spec_l01In.calls ((rd_T147 l0_0 x3_1).f1) 0 99 true _ A20.out).mono ?_);rintro e w' ⟨rfl,⟨nd,rfl⟩⟩;(try exact zY_))|(go_at_call 64;(with_reducible refine (spec_VarName.calls kj4 ((rd_T147 l0_0 x3_1).f2) false _ A23.out).mono ?_);rintro e w' ⟨rfl,⟨nd,rfl⟩⟩;(try exact zY_)));try go_wp2_with (first|(go_at_call 16;(with_reducible refine (spec_l01In.calls ((rd_T147 l0_0 x3_1).f1) 0 99 true _ A20.out).mono ?_);rintro e w' ⟨rfl,⟨nd,rfl⟩⟩;(try exact zY_))|(go_at_call 64;(with_reducible refine (spec_VarName.calls kj4 ((rd_T147 l0_0 x3_1).f2) false _ A23.out).mono ?_);rintro e w' ⟨rfl,⟨nd,rfl⟩⟩;(try exact zY_))))
      go_meet
      case rel => exact ⟨_,(true),zV_,H',⟨by have:=HK1.out;have:=HJ4.out;first|omega|exact Nat.le_refl _⟩,⟨zK_⟩,⟨zK_⟩,⟨zG_⟩⟩
     case rest =>
      clear HC18
      obtain ⟨kq,x70_17,rfl,HA,HJ17,BK147,BK150,HB⟩:=hcut
      cases kq with
      |zero => exact absurd HA.out (by simp [spec_ExprOk.j2])
      |succ kj17 =>
       have H:=HA.out
       clear HA
       simp only [spec_ExprOk.j2] at H
       by_cases c45 : x70_17 = true
       ·subst c45
        rw [if_pos rfl] at H
        obtain rfl:=zi_ H
        go_wp2
        repeat (go_quiet (fail);try go_wp2)
        go_ret
        exact ⟨zE_,zG_⟩
       replace c45:=Bool.eq_false_iff.mpr c45
       subst c45
       rw [zF_] at H
       have H':=zm_ H
       clear H
       go_wp2
       repeat (go_quiet (fail);try go_wp2)
       go_loopg [5] kj17 (fun kq v5 w' => ∃ (x5_4 : Int),v5 = .int .i64 x5_4 ∧ Aside0 (spec_ExprOk.l1 kq x3_1 x5_4 l0_0 ((rd_T147 l0_0 x3_1).f0) ((rd_T147 l0_0 x3_1).f1) ((rd_T147 l0_0 x3_1).f2) ((rd_T147 l0_0 x3_1).f3) = some r) ∧ Aside0 (kq ≤ kj17) ∧ Aside0 (w'.heap[gb147]? = some (.cells #[(.slice (some ad149) l0_0.length c0_0)] 123 (0,0))) ∧ Aside0 (w'.heap[gb150]? = some (.cells #[.int .i64 ((rd_T147 l0_0 x3_1).f0),.int .i64 ((rd_T147 l0_0 x3_1).f1),.string ((rd_T147 l0_0 x3_1).f2),(.slice A149_3 ((rd_T147 l0_0 x3_1).f3).length c149_3)] 147 (0,0))) ∧ Aside0 (Below w.heap.size w w'))
       case atStart => exact ⟨(0),zV_,H',⟨Nat.le_refl _⟩,⟨zK_⟩,⟨zK_⟩,⟨zG_⟩⟩
       case round =>
        clear H'
        obtain ⟨x5_4,rfl,HA,HK4,BK147,BK150,HB⟩:=hrel
        cases gk with
        |zero => exact absurd HA.out (by simp [spec_ExprOk.l1])
        |succ k4 =>
         have H:=HA.out
         clear HA
         simp only [spec_ExprOk.l1] at H
         by_cases c46 : x5_4 < (((rd_T147 l0_0 x3_1).f3).length : Int)
         rotate_left
         ·rw [if_neg c46] at H
          have c46b0:=decide_eq_false c46
          clear c46
          have H':=zm_ H
          clear H
          have hnb54:=NB150_147.out
          have hnc54:=NB147_150.out
          have hcz55_0 : wr.cell? ⟨gb150,0,none⟩ = some (.int .i64 ((rd_T147 l0_0 x3_1).f0)):=(zc_ BK150.out 0).trans rfl
          have hcz55_1 : wr.cell? ⟨gb150,1,none⟩ = some (.int .i64 ((rd_T147 l0_0 x3_1).f1)):=(zc_ BK150.out 1).trans rfl
          have hcz55_2 : wr.cell? ⟨gb150,2,none⟩ = some (.string ((rd_T147 l0_0 x3_1).f2)):=(zc_ BK150.out 2).trans rfl
          have hcz55_3 : wr.cell? ⟨gb150,3,none⟩ = some (.slice A149_3 ((rd_T147 l0_0 x3_1).f3).length c149_3):=(zc_ BK150.out 3).trans rfl
          have hfz55_0:=zf_ BK150.out 0
          have hfz55_1:=zf_ BK150.out 1
          have hfz55_2:=zf_ BK150.out 2
          have hfz55_3:=zf_ BK150.out 3
          go_wp2
          repeat (go_quiet (fail);try go_wp2)
          go_roundg k4
          case measure => have:=HK1.out;have:=HJ4.out;have:=HJ17.out;have:=HK4.out;omega
          case rel => exact ⟨(wrap64 (x3_1 + 1)),zV_,H',⟨by have:=HK1.out;have:=HJ4.out;have:=HJ17.out;have:=HK4.out;omega⟩,⟨zK_⟩,⟨zG_⟩⟩
         rw [if_pos c46] at H
         have c46b0:=decide_eq_true c46
         clear c46
         by_cases c47 : 0 ≤ x5_4
         rotate_left
         ·rw [if_neg c47] at H
          cases H
         rw [if_pos c47] at H
         have c47b0:=decide_eq_true c47
         clear c47
         obtain ⟨t157,A48,H⟩:=zJ_ H
         try dsimp only at H
         by_cases c49 : t157 = true
         rotate_left
         ·replace c49:=Bool.eq_false_iff.mpr c49
          subst c49
          rw [zF_] at H
          obtain rfl:=zi_ H
          have hnb52:=NB150_147.out
          have hnc52:=NB147_150.out
          have hcz53_0 : wr.cell? ⟨gb150,0,none⟩ = some (.int .i64 ((rd_T147 l0_0 x3_1).f0)):=(zc_ BK150.out 0).trans rfl
          have hcz53_1 : wr.cell? ⟨gb150,1,none⟩ = some (.int .i64 ((rd_T147 l0_0 x3_1).f1)):=(zc_ BK150.out 1).trans rfl
          have hcz53_2 : wr.cell? ⟨gb150,2,none⟩ = some (.string ((rd_T147 l0_0 x3_1).f2)):=(zc_ BK150.out 2).trans rfl
          have hcz53_3 : wr.cell? ⟨gb150,3,none⟩ = some (.slice A149_3 ((rd_T147 l0_0 x3_1).f3).length c149_3):=(zc_ BK150.out 3).trans rfl
          have hfz53_0:=zf_ BK150.out 0
          have hfz53_1:=zf_ BK150.out 1
          have hfz53_2:=zf_ BK150.out 2
          have hfz53_3:=zf_ BK150.out 3
          have p156 : 0 ≤ (x5_4 : Int):=zo_
          have q156 : x5_4 < (((rd_T147 l0_0 x3_1).f3).length : Int):=zo_
          obtain ⟨ad156,e156,hx156_0⟩:=Kd.at_int HR149_3.out x5_4 p156 q156
          cases e156
          replace hx156_0:=(HB.out.cell (zb_ w _ hx156_0)).trans hx156_0
          replace p156:=eq_true p156
          replace q156:=eq_true q156
          go_wp2_with (first|(go_at_call 16;(with_reducible refine (spec_l01In.calls (rd ((rd_T147 l0_0 x3_1).f3) x5_4) 0 (wrap64 (x3_1 - 1)) false _ A48.out).mono ?_);rintro e w' ⟨rfl,⟨nd,rfl⟩⟩;(try exact zY_)))
          repeat (go_quiet (first|(go_at_call 16;(with_reducible refine (spec_l01In.calls (rd ((rd_T147 l0_0 x3_1).f3) x5_4) 0 (wrap64 (x3_1 - 1)) false _ A48.out).mono ?_);rintro e w' ⟨rfl,⟨nd,rfl⟩⟩;(try exact zY_)));try go_wp2_with (first|(go_at_call 16;(with_reducible refine (spec_l01In.calls (rd ((rd_T147 l0_0 x3_1).f3) x5_4) 0 (wrap64 (x3_1 - 1)) false _ A48.out).mono ?_);rintro e w' ⟨rfl,⟨nd,rfl⟩⟩;(try exact zY_))))
          go_ret
          exact ⟨zE_,zG_⟩
         subst c49
         rw [if_pos rfl] at H
         have H':=zm_ H
         clear H
         have hnb50:=NB150_147.out
         have hnc50:=NB147_150.out
         have hcz51_0 : wr.cell? ⟨gb150,0,none⟩ = some (.int .i64 ((rd_T147 l0_0 x3_1).f0)):=(zc_ BK150.out 0).trans rfl
         have hcz51_1 : wr.cell? ⟨gb150,1,none⟩ = some (.int .i64 ((rd_T147 l0_0 x3_1).f1)):=(zc_ BK150.out 1).trans rfl
         have hcz51_2 : wr.cell? ⟨gb150,2,none⟩ = some (.string ((rd_T147 l0_0 x3_1).f2)):=(zc_ BK150.out 2).trans rfl
         have hcz51_3 : wr.cell? ⟨gb150,3,none⟩ = some (.slice A149_3 ((rd_T147 l0_0 x3_1).f3).length c149_3):=(zc_ BK150.out 3).trans rfl
         have hfz51_0:=zf_ BK150.out 0
         have hfz51_1:=zf_ BK150.out 1
         have hfz51_2:=zf_ BK150.out 2
         have hfz51_3:=zf_ BK150.out 3
         have p156 : 0 ≤ (x5_4 : Int):=zo_
         have q156 : x5_4 < (((rd_T147 l0_0 x3_1).f3).length : Int):=zo_
         obtain ⟨ad156,e156,hx156_0⟩:=Kd.at_int HR149_3.out x5_4 p156 q156
         cases e156
         replace hx156_0:=(HB.out.cell (zb_ w _ hx156_0)).trans hx156_0
         replace p156:=eq_true p156
         replace q156:=eq_true q156
         go_wp2_with (first|(go_at_call 16;(with_reducible refine (spec_l01In.calls (rd ((rd_T147 l0_0 x3_1).f3) x5_4) 0 (wrap64 (x3_1 - 1)) true _ A48.out).mono ?_);rintro e w' ⟨rfl,⟨nd,rfl⟩⟩;(try exact zY_)))
         repeat (go_quiet (first|(go_at_call 16;(with_reducible refine (spec_l01In.calls (rd ((rd_T147 l0_0 x3_1).f3) x5_4) 0 (wrap64 (x3_1 - 1)) true _ A48.out).mono ?_);rintro e w' ⟨rfl,⟨nd,rfl⟩⟩;(try exact zY_)));try go_wp2_with (first|(go_at_call 16;(with_reducible refine (spec_l01In.calls (rd ((rd_T147 l0_0 x3_1).f3) x5_4) 0 (wrap64 (x3_1 - 1)) true _ A48.out).mono ?_);rintro e w' ⟨rfl,⟨nd,rfl⟩⟩;(try exact zY_))))
         go_roundg k4
         case measure => have:=HK1.out;have:=HJ4.out;have:=HJ17.out;have:=HK4.out;omega
         case rel => exact ⟨(wrap64 (x5_4 + 1)),zV_,H',⟨by have:=HK1.out;have:=HJ4.out;have:=HJ17.out;have:=HK4.out;omega⟩,⟨zK_⟩,⟨zK_⟩,⟨zG_⟩⟩
end Go.Proofs.YtkbgmojomgelbaaGreat.MFnExactGrammarOk
