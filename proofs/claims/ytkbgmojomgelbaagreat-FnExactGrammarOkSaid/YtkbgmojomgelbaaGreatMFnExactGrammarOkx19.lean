import Derived.Test.YtkbgmojomgelbaaGreatMFnExactGrammarOkx0
import Derived.Test.YtkbgmojomgelbaaGreatMFnExactGrammarOkx12
import Derived.Test.YtkbgmojomgelbaaGreatMFnExactGrammarOkx13
import Derived.Test.YtkbgmojomgelbaaGreatMFnExactGrammarOkx18
namespace Go.Proofs.YtkbgmojomgelbaaGreat.MFnExactGrammarOk
open Go.RowKit Go.Proofs.YtkbgmojomgelbaaGreatW.PrintWords Go.Proofs.YtkbgmojomgelbaaGreatW.PrintLast Go.Proofs.YtkbgmojomgelbaaGreatW.PrintMore
attribute [local go_sem] max2_int min2_int max_two min_two max_three min_three max_four min_four
set_option linter.unusedVariables false
set_option linter.unusedSimpArgs false
set_option maxHeartbeats 8000000
set_option maxRecDepth 100000
theorem zt19_14 {p : Prop} (h : p := by (with_reducible repeat first|refine zl_ ?_ _|refine zr_ ?_|refine zk_ ?_ _);refine blk_far ?_ NB444_450.out _;(with_reducible repeat first|refine zl_ ?_ _|refine zr_ ?_|refine zk_ ?_ _);exact BK444.out) : p := h
theorem zt19_13 {p : Prop} (h : p := by (with_reducible repeat first|refine zl_ ?_ _|refine zr_ ?_|refine zk_ ?_ _);refine blk_far ?_ NB440_450.out _;(with_reducible repeat first|refine zl_ ?_ _|refine zr_ ?_|refine zk_ ?_ _);exact BK440.out) : p := h
theorem zt19_12 {p : Prop} (h : p := by (with_reducible repeat first|refine zl_ ?_ _|refine zr_ ?_|refine zk_ ?_ _);refine blk_put (cs:=#[.slice none 0 0]) ?_ 0 _ rfl;(with_reducible repeat first|refine zl_ ?_ _|refine zr_ ?_|refine zk_ ?_ _);exact BK450.out) : p := h
theorem zt19_11 {p : Prop} (h : p := by rw [hg];exact Nat.ne_of_gt (blk_lt (g:=gb444) (o:=.cells #[.string ((rd_T49 l0_0 x24_2).f0),.slice A443_1 ((rd_T49 l0_0 x24_2).f1).length c443_1,.slice (some ad449) ((rd_T49 l0_0 x24_2).f2).length c443_2] 49 (0,0)) zK_)) : p := h
theorem zt19_10 {p : Prop} (h : p := by rw [hg];exact Nat.ne_of_lt (blk_lt (g:=gb444) (o:=.cells #[.string ((rd_T49 l0_0 x24_2).f0),.slice A443_1 ((rd_T49 l0_0 x24_2).f1).length c443_1,.slice (some ad449) ((rd_T49 l0_0 x24_2).f2).length c443_2] 49 (0,0)) zK_)) : p := h
theorem zt19_9 {p : Prop} (h : p := by rw [hg];exact Nat.ne_of_gt (blk_lt (g:=gb440) (o:=.cells #[.slice (some ad443) l0_0.length c0_0] 29 (0,0)) zK_)) : p := h
theorem zt19_8 {p : Prop} (h : p := by rw [hg];exact Nat.ne_of_lt (blk_lt (g:=gb440) (o:=.cells #[.slice (some ad443) l0_0.length c0_0] 29 (0,0)) zK_)) : p := h
theorem zt19_4 {p : Prop} (h : p := by (with_reducible repeat first|refine zl_ ?_ _|refine zr_ ?_|refine zk_ ?_ _);refine blk_far ?_ NB440_444.out _;(with_reducible repeat first|refine zl_ ?_ _|refine zr_ ?_|refine zk_ ?_ _);refine blk_far ?_ NB440_444.out _;(with_reducible repeat first|refine zl_ ?_ _|refine zr_ ?_|refine zk_ ?_ _);refine blk_far ?_ NB440_444.out _;(with_reducible repeat first|refine zl_ ?_ _|refine zr_ ?_|refine zk_ ?_ _);exact BK440.out) : p := h
theorem zt19_2 {p : Prop} (h : p := by (with_reducible repeat first|refine zl_ ?_ _|refine zr_ ?_|refine zk_ ?_ _);refine blk_put (cs:=#[.string ((rd_T49 l0_0 x24_2).f0),.slice A443_1 ((rd_T49 l0_0 x24_2).f1).length c443_1,.slice none 0 0]) ?_ 2 _ rfl;(with_reducible repeat first|refine zl_ ?_ _|refine zr_ ?_|refine zk_ ?_ _);refine blk_put (cs:=#[.string ((rd_T49 l0_0 x24_2).f0),.slice none 0 0,.slice none 0 0]) ?_ 1 _ rfl;(with_reducible repeat first|refine zl_ ?_ _|refine zr_ ?_|refine zk_ ?_ _);refine blk_put (cs:=#[.string (⟨#[]⟩ : ByteArray),.slice none 0 0,.slice none 0 0]) ?_ 0 _ rfl;(with_reducible repeat first|refine zl_ ?_ _|refine zr_ ?_|refine zk_ ?_ _);exact BK444.out) : p := h

mutual
def impl_GrammarOk.j0 : Nat → Bool → List (S49) → Option (Bool)
 |0,_,_ => none
 |k + 1,x20,x441000 => if x20 = true then (some false) else (impl_GrammarOk.l0 k x441000 (x441000.length : Int) 0 x441000)
def impl_GrammarOk.l0 : Nat → List (S49) → Int → Int → List (S49) → Option (Bool)
 |0,_,_,_,_ => none
 |k + 1,x22,x23,x24,x441000 => if x24 < x23 then (if 0 ≤ x24 then (if x24 < (x22.length : Int) then ((impl_RuleName.f k ((rd_T49 x22 x24).f0)).bind fun t445 => (if t445 = true then ((impl_RuleAt.f x441000 ((rd_T49 x22 x24).f0)).bind fun t446 => (if t446 = x24 then ((impl_paramsOk.f k ((rd_T49 x22 x24).f1)).bind fun t447 => (if t447 = true then ((impl_within.f (((rd_T49 x22 x24).f2).length : Int) 1 8).bind fun t448 => (impl_GrammarOk.j2 k x22 x23 x24 (!t448) x441000 ((rd_T49 x22 x24).f0) ((rd_T49 x22 x24).f1) ((rd_T49 x22 x24).f2))) else (impl_GrammarOk.j2 k x22 x23 x24 true x441000 ((rd_T49 x22 x24).f0) ((rd_T49 x22 x24).f1) ((rd_T49 x22 x24).f2)))) else (impl_GrammarOk.j2 k x22 x23 x24 true x441000 ((rd_T49 x22 x24).f0) ((rd_T49 x22 x24).f1) ((rd_T49 x22 x24).f2)))) else (impl_GrammarOk.j2 k x22 x23 x24 true x441000 ((rd_T49 x22 x24).f0) ((rd_T49 x22 x24).f1) ((rd_T49 x22 x24).f2)))) else (none)) else (none)) else (some true)
def impl_GrammarOk.j2 : Nat → List (S49) → Int → Int → Bool → List (S49) → ByteArray → List ByteArray → List (S57) → Option (Bool)
 |0,_,_,_,_,_,_,_,_ => none
 |k + 1,x22,x23,x24,x53,x441000,x445000,x445001,x445002 => if x53 = true then (some false) else (impl_GrammarOk.l1 k x22 x23 x24 x445002 (x445002.length : Int) 0 x441000 x445000 x445001 x445002)
def impl_GrammarOk.l1 : Nat → List (S49) → Int → Int → List (S57) → Int → Int → List (S49) → ByteArray → List ByteArray → List (S57) → Option (Bool)
 |0,_,_,_,_,_,_,_,_,_,_ => none
 |k + 1,x22,x23,x24,x55,x56,x57,x441000,x445000,x445001,x445002 => if x57 < x56 then (if 0 ≤ x57 then (if x57 < (x55.length : Int) then ((impl_altOk.f k x441000 ((rd_T57 x55 x57).f0) x445001).bind fun t451 => (if t451 = true then (impl_GrammarOk.l1 k x22 x23 x24 x55 x56 (wrap64 (x57 + 1)) x441000 x445000 x445001 x445002) else (some false))) else (none)) else (none)) else (impl_GrammarOk.l0 k x22 x23 (wrap64 (x24 + 1)) x441000)
end
def impl_GrammarOk.f (k : Nat) (l0_0 : List (S49)) : Option (Bool):=(impl_within.f (l0_0.length : Int) 1 30).bind fun t441 => (if t441 = true then (if 0 < (l0_0.length : Int) then (impl_GrammarOk.j0 k (decide ((((rd_T49 l0_0 0).f1).length : Int) > 0)) l0_0) else (none)) else (impl_GrammarOk.j0 k true l0_0))
theorem impl_GrammarOk.calls (k : Nat) (A0_0 : Option Addr) (c0_0 : Nat) (l0_0 : List (S49)) (r : Bool) (w : World) (hr0_0 : Kd.C k49 w A0_0 l0_0.length l0_0) (hc0_0 : l0_0.length ≤ c0_0) (h : impl_GrammarOk.f k l0_0 = some r) :
  Calls Tryz.prog 8 #[.agg #[.slice A0_0 l0_0.length c0_0]] w fun e w' => e = .returned (.bool r) ∧ Below w.heap.size w w':=by
 have hu29:=Tryz.underlying29
 have hu49:=Tryz.underlying49
 have hu57:=Tryz.underlying57
 have HR0_0:=zm_ hr0_0
 have HC0_0:=zm_ hc0_0
 clear hr0_0 hc0_0
 have HB:=zm_ (Below.refl w.heap.size w)
 have H : ((impl_within.f (l0_0.length : Int) 1 30).bind fun t441 => (if t441 = true then (if 0 < (l0_0.length : Int) then (impl_GrammarOk.j0 k (decide ((((rd_T49 l0_0 0).f1).length : Int) > 0)) l0_0) else (none)) else (impl_GrammarOk.j0 k true l0_0))) = some r:=h
 clear h
 have HC2:=zm_ H
 clear H
 go_enter Tryz.func8,Tryz.ntmps8
 go_upto_region 1 with (first|((with_reducible refine gate_dst (N:=1) rfl ?_);(try (refine gate_guard (by rfl) ?_;dsimp only));refine box_event ?hg (N:=1) ?hd (cs:=#[.slice A0_0 l0_0.length c0_0]) (t:=29) ?hr ?_;(case hd => rfl);(case hg => rfl);(case hr => first|(go_simp;done)|(go_simp;rfl));intro gb440 hg w3 hbox hb;have n0_:=zm_ (below_step zB_ hb);have n1_:=zm_ (hbox);have n2_:=zm_ ((by rw [hg];exact (below_size zB_) : w.heap.size ≤ gb440));have n3_:=zm_ ((by rw [hg];exact (below_size zB_) : w.heap.size ≤ gb440));clear HB;have HB:=n0_;have BK440:=n1_;have GW440:=n2_;have GE440:=n3_;clear n0_ n1_ n2_ n3_;clear hb hbox hg))
 (try simp only [Act.put,List.setIfInBounds_toArray,List.set_cons_zero,List.set_cons_succ])
 go_cut [20] (fun v20 wc => ∃ (kq : Nat) (x20_1 : Bool),v20 = .bool x20_1 ∧ Aside0 (impl_GrammarOk.j0 kq x20_1 l0_0 = some r) ∧ Aside0 (kq ≤ k) ∧ Aside0 (wc.heap[gb440]? = some (.cells #[(.slice A0_0 l0_0.length c0_0)] 29 (0,0))) ∧ Aside0 (Below w.heap.size w wc))
 case first =>
  have H:=HC2.out
  clear HC2
  obtain ⟨t441,A4,H⟩:=zJ_ H
  try dsimp only at H
  by_cases c5 : t441 = true
  rotate_left
  ·replace c5:=Bool.eq_false_iff.mpr c5
   subst c5
   rw [zF_] at H
   have H':=zm_ H
   clear H
   have hcz8_0 : w3.cell? ⟨gb440,0,none⟩ = some (.slice A0_0 l0_0.length c0_0):=(zc_ BK440.out 0).trans rfl
   have hfz8_0:=zf_ BK440.out 0
   go_wp2_with (first|((with_reducible refine gate_callee (f:=20) rfl ?_);refine goesL_ (some 10) rfl rfl Tryz.func20 (by kernel_rfl) rfl #[.int .i64 (l0_0.length : Int),.int .i64 1,.int .i64 30] rfl zq_ ?_;(with_reducible refine (impl_within.calls (l0_0.length : Int) 1 30 false _ A4.out).mono ?_);rintro e w' ⟨rfl,⟨nd,rfl⟩⟩;refine ⟨_,rfl,?_⟩))
   go_meet
   case rel => exact ⟨_,(true),zV_,H',⟨by first|omega|exact Nat.le_refl _⟩,⟨zK_⟩,⟨zG_⟩⟩
  subst c5
  rw [if_pos rfl] at H
  by_cases c6 : 0 < (l0_0.length : Int)
  rotate_left
  ·rw [if_neg c6] at H
   cases H
  rw [if_pos c6] at H
  have c6b0:=decide_eq_true c6
  have c6b1 : decide (0 < l0_0.length) = true:=decide_eq_true (by omega)
  clear c6
  (first|rw [c6b0]|(simp only [i64_w,i32_w];rw [c6b0])|skip)
  have H':=zm_ H
  clear H
  have hcz7_0 : w3.cell? ⟨gb440,0,none⟩ = some (.slice A0_0 l0_0.length c0_0):=(zc_ BK440.out 0).trans rfl
  have hfz7_0:=zf_ BK440.out 0
  go_wp2_with (first|((with_reducible refine gate_callee (f:=20) rfl ?_);refine goesL_ (some 10) rfl rfl Tryz.func20 (by kernel_rfl) rfl #[.int .i64 (l0_0.length : Int),.int .i64 1,.int .i64 30] rfl zq_ ?_;(with_reducible refine (impl_within.calls (l0_0.length : Int) 1 30 true _ A4.out).mono ?_);rintro e w' ⟨rfl,⟨nd,rfl⟩⟩;refine ⟨_,rfl,?_⟩;have p442 : 0 ≤ (0 : Int):=(by omega);have q442 : 0 < (l0_0.length : Int):=zo_;obtain ⟨ad442,A442_1,c442_1,A442_2,c442_2,e442,hx442_0,hx442_1,hx442_2,hl442_1,hi442_1,hl442_2,hi442_2⟩:=at_T49 HR0_0.out 0 p442 q442;cases e442;have qi442 : (0 < l0_0.length) = True:=eq_true (by omega);(try rw [show ((0 : Int)).toNat = 0 from rfl] at hx442_0);(try rw [show 0 * 3 = 0 from rfl] at hx442_0);(try rw [Addr.add_zero'] at hx442_0);(try rw [show ((0 : Int)).toNat = 0 from rfl] at hx442_1);(try rw [show 0 * 3 = 0 from rfl] at hx442_1);(try rw [Addr.add_zero'] at hx442_1);(try rw [show ((0 : Int)).toNat = 0 from rfl] at hx442_2);(try rw [show 0 * 3 = 0 from rfl] at hx442_2);(try rw [Addr.add_zero'] at hx442_2);replace hx442_0:=(HB.out.cell (zb_ w _ hx442_0)).trans hx442_0;replace hx442_1:=(HB.out.cell (zb_ w _ hx442_1)).trans hx442_1;replace hx442_2:=(HB.out.cell (zb_ w _ hx442_2)).trans hx442_2;have HR442_1:=zm_ hi442_1;have HC442_1:=zm_ hl442_1;clear hi442_1 hl442_1;have HR442_2:=zm_ hi442_2;have HC442_2:=zm_ hl442_2;clear hi442_2 hl442_2;replace p442:=eq_true p442;replace q442:=eq_true q442))
  go_meet
  case rel => exact ⟨_,(decide ((((rd_T49 l0_0 0).f1).length : Int) > 0)),zV_,H',⟨by first|omega|exact Nat.le_refl _⟩,⟨zK_⟩,⟨zG_⟩⟩
 case rest =>
  clear HC2
  obtain ⟨kq,x20_1,rfl,HA,HJ1,BK440,HB⟩:=hcut
  cases kq with
  |zero => exact absurd HA.out (by simp [impl_GrammarOk.j0])
  |succ kj1 =>
   have H:=HA.out
   clear HA
   simp only [impl_GrammarOk.j0] at H
   by_cases c9 : x20_1 = true
   ·subst c9
    rw [if_pos rfl] at H
    obtain rfl:=zi_ H
    go_wp2
    go_ret
    exact ⟨zE_,zG_⟩
   replace c9:=Bool.eq_false_iff.mpr c9
   subst c9
   rw [zF_] at H
   have H':=zm_ H
   clear H
   have hcz10_0 : wc.cell? ⟨gb440,0,none⟩ = some (.slice A0_0 l0_0.length c0_0):=(zc_ BK440.out 0).trans rfl
   have hfz10_0:=zf_ BK440.out 0
   go_wp2
   go_loopg [24] kj1 (fun kq v24 w' => ∃ (x24_2 : Int),v24 = .int .i64 x24_2 ∧ Aside0 (impl_GrammarOk.l0 kq l0_0 (l0_0.length : Int) x24_2 l0_0 = some r) ∧ Aside0 (kq ≤ kj1) ∧ Aside0 (w'.heap[gb440]? = some (.cells #[(.slice A0_0 l0_0.length c0_0)] 29 (0,0))) ∧ Aside0 (Below w.heap.size w w'))
   case atStart => exact ⟨(0),zV_,H',⟨Nat.le_refl _⟩,⟨zK_⟩,⟨zG_⟩⟩
   case round =>
    clear H'
    obtain ⟨x24_2,rfl,HA,HK2,BK440,HB⟩:=hrel
    cases gk with
    |zero => exact absurd HA.out (by simp [impl_GrammarOk.l0])
    |succ k2 =>
     have H:=HA.out
     clear HA
     simp only [impl_GrammarOk.l0] at H
     by_cases c11 : x24_2 < (l0_0.length : Int)
     rotate_left
     ·rw [if_neg c11] at H
      have c11b0:=decide_eq_false c11
      clear c11
      obtain rfl:=zi_ H
      go_wp2
      go_ret
      exact ⟨zE_,zG_⟩


     rw [if_pos c11] at H
     have c11b0:=decide_eq_true c11
     clear c11
     by_cases c12 : 0 ≤ x24_2
     rotate_left
     ·rw [if_neg c12] at H
      cases H
     rw [if_pos c12] at H
     have c12b0:=decide_eq_true c12
     clear c12
     by_cases c13 : x24_2 < (l0_0.length : Int)
     rotate_left
     ·rw [if_neg c13] at H
      cases H
     rw [if_pos c13] at H
     have c13b0:=decide_eq_true c13
     clear c13
     have HC14:=zm_ H
     clear H
     have p443 : 0 ≤ (x24_2 : Int):=zo_
     have q443 : x24_2 < (l0_0.length : Int):=zo_
     obtain ⟨ad443,A443_1,c443_1,A443_2,c443_2,e443,hx443_0,hx443_1,hx443_2,hl443_1,hi443_1,hl443_2,hi443_2⟩:=at_T49 HR0_0.out x24_2 p443 q443
     cases e443
     replace hx443_0:=(HB.out.cell (zb_ w _ hx443_0)).trans hx443_0
     replace hx443_1:=(HB.out.cell (zb_ w _ hx443_1)).trans hx443_1
     replace hx443_2:=(HB.out.cell (zb_ w _ hx443_2)).trans hx443_2
     have HR443_1:=zm_ hi443_1
     have HC443_1:=zm_ hl443_1
     clear hi443_1 hl443_1
     have HR443_2:=zm_ hi443_2
     have HC443_2:=zm_ hl443_2
     clear hi443_2 hl443_2
     replace p443:=eq_true p443
     replace q443:=eq_true q443
     go_upto_region 6 with (first|((with_reducible refine gate_dst (N:=4) rfl ?_);(try (refine gate_guard (by rfl) ?_;dsimp only));refine box_event ?hg (N:=4) ?hd (cs:=#[.string (⟨#[]⟩ : ByteArray),.slice none 0 0,.slice none 0 0]) (t:=49) ?hr ?_;(case hd => rfl);(case hg => rfl);(case hr => first|(go_simp;done)|(go_simp;rfl));intro gb444 hg w15 hbox hb;have n0_:=zm_ (blk_below (g:=gb440) (o:=.cells #[.slice (some ad443) l0_0.length c0_0] 29 (0,0)) zK_ hb);have n1_:=zm_ (below_step zG_ hb);have n2_:=zm_ (hbox);have n3_:=zm_ ((by rw [hg];exact (below_size zG_) : w.heap.size ≤ gb444));have n4_:=zm_ ((by rw [hg];exact (below_size zG_) : w.heap.size ≤ gb444));have n5_:=zm_ ((zt19_8 : gb440 ≠ gb444));have n6_:=zm_ ((zt19_9 : gb444 ≠ gb440));clear BK440;clear HB;have BK440:=n0_;have HB:=n1_;have BK444:=n2_;have GW444:=n3_;have GE444:=n4_;have NB440_444:=n5_;have NB444_440:=n6_;clear n0_ n1_ n2_ n3_ n4_ n5_ n6_;clear hb hbox hg;have hnb16:=NB444_440.out;have hnc16:=NB440_444.out;have hcz17_0 : w15.cell? ⟨gb444,0,none⟩ = some (.string (⟨#[]⟩ : ByteArray)):=(zc_ BK444.out 0).trans rfl;have hcz17_1 : w15.cell? ⟨gb444,1,none⟩ = some (.slice none 0 0):=(zc_ BK444.out 1).trans rfl;have hcz17_2 : w15.cell? ⟨gb444,2,none⟩ = some (.slice none 0 0):=(zc_ BK444.out 2).trans rfl;have hfz17_0:=zf_ BK444.out 0;have hfz17_1:=zf_ BK444.out 1;have hfz17_2:=zf_ BK444.out 2))
     (try simp only [Act.put,List.setIfInBounds_toArray,List.set_cons_zero,List.set_cons_succ])
     go_cut [53] (fun v53 wc => ∃ (kq : Nat) (x53_13 : Bool),v53 = .bool x53_13 ∧ Aside0 (impl_GrammarOk.j2 kq l0_0 (l0_0.length : Int) x24_2 x53_13 l0_0 ((rd_T49 l0_0 x24_2).f0) ((rd_T49 l0_0 x24_2).f1) ((rd_T49 l0_0 x24_2).f2) = some r) ∧ Aside0 (kq ≤ k2) ∧ Aside0 (wc.heap[gb440]? = some (.cells #[(.slice (some ad443) l0_0.length c0_0)] 29 (0,0))) ∧ Aside0 (wc.heap[gb444]? = some (.cells #[.string ((rd_T49 l0_0 x24_2).f0),(.slice A443_1 ((rd_T49 l0_0 x24_2).f1).length c443_1),(.slice A443_2 ((rd_T49 l0_0 x24_2).f2).length c443_2)] 49 (0,0))) ∧ Aside0 (Below w.heap.size w wc))
     case first =>
      have H:=HC14.out
      clear HC14
      obtain ⟨t445,A18,H⟩:=zJ_ H
      try dsimp only at H
      by_cases c19 : t445 = true
      rotate_left
      ·replace c19:=Bool.eq_false_iff.mpr c19
       subst c19
       rw [zF_] at H
       have H':=zm_ H
       clear H
       have hnb39:=NB444_440.out
       have hnc39:=NB440_444.out
       have hcz40_0 : w15.cell? ⟨gb444,0,none⟩ = some (.string (⟨#[]⟩ : ByteArray)):=(zc_ BK444.out 0).trans rfl
       have hcz40_1 : w15.cell? ⟨gb444,1,none⟩ = some (.slice none 0 0):=(zc_ BK444.out 1).trans rfl
       have hcz40_2 : w15.cell? ⟨gb444,2,none⟩ = some (.slice none 0 0):=(zc_ BK444.out 2).trans rfl
       have hfz40_0:=zf_ BK444.out 0
       have hfz40_1:=zf_ BK444.out 1
       have hfz40_2:=zf_ BK444.out 2
       go_wp2_with (first|((with_reducible refine gate_callee (f:=21) rfl ?_);refine goesL_ (some 31) rfl rfl Tryz.func21 (by kernel_rfl) rfl #[.string ((rd_T49 l0_0 x24_2).f0)] rfl zq_ ?_;(with_reducible refine (impl_RuleName.calls k2 ((rd_T49 l0_0 x24_2).f0) false _ A18.out).mono ?_);rintro e w' ⟨rfl,⟨nd,rfl⟩⟩;refine ⟨_,rfl,?_⟩))
       go_meet
       case rel => exact ⟨_,(true),zV_,H',⟨by have:=HJ1.out;have:=HK2.out;first|omega|exact Nat.le_refl _⟩,⟨by (with_reducible repeat first|refine zl_ ?_ _|refine zr_ ?_|refine zk_ ?_ _);refine blk_far ?_ NB440_444.out _;(with_reducible repeat first|refine zl_ ?_ _|refine zr_ ?_|refine zk_ ?_ _);refine blk_far ?_ NB440_444.out _;(with_reducible repeat first|refine zl_ ?_ _|refine zr_ ?_|refine zk_ ?_ _);refine blk_far ?_ NB440_444.out _;(with_reducible repeat first|refine zl_ ?_ _|refine zr_ ?_|refine zk_ ?_ _);exact BK440.out⟩,⟨by (with_reducible repeat first|refine zl_ ?_ _|refine zr_ ?_|refine zk_ ?_ _);refine blk_put (cs:=#[.string ((rd_T49 l0_0 x24_2).f0),.slice A443_1 ((rd_T49 l0_0 x24_2).f1).length c443_1,.slice none 0 0]) ?_ 2 _ rfl;(with_reducible repeat first|refine zl_ ?_ _|refine zr_ ?_|refine zk_ ?_ _);refine blk_put (cs:=#[.string ((rd_T49 l0_0 x24_2).f0),.slice none 0 0,.slice none 0 0]) ?_ 1 _ rfl;(with_reducible repeat first|refine zl_ ?_ _|refine zr_ ?_|refine zk_ ?_ _);refine blk_put (cs:=#[.string (⟨#[]⟩ : ByteArray),.slice none 0 0,.slice none 0 0]) ?_ 0 _ rfl;(with_reducible repeat first|refine zl_ ?_ _|refine zr_ ?_|refine zk_ ?_ _);exact BK444.out⟩,⟨zG_⟩⟩
      subst c19
      rw [if_pos rfl] at H
      obtain ⟨t446,A20,H⟩:=zJ_ H
      try dsimp only at H
      by_cases c21 : t446 = x24_2
      rotate_left
      ·rw [if_neg c21] at H
       have c21b0 : (t446 == x24_2) = false:=beq_eq_false_iff_ne.mpr c21
       have c21b1 : (t446 != x24_2) = true:=bne_iff_ne.mpr c21
       (first|rw [c21b0]|(simp only [i64_w,i32_w];rw [c21b0])|skip)
       have H':=zm_ H
       clear H
       have hnb35:=NB444_440.out
       have hnc35:=NB440_444.out
       have hcz36_0 : w15.cell? ⟨gb444,0,none⟩ = some (.string (⟨#[]⟩ : ByteArray)):=(zc_ BK444.out 0).trans rfl
       have hcz36_1 : w15.cell? ⟨gb444,1,none⟩ = some (.slice none 0 0):=(zc_ BK444.out 1).trans rfl
       have hcz36_2 : w15.cell? ⟨gb444,2,none⟩ = some (.slice none 0 0):=(zc_ BK444.out 2).trans rfl
       have hfz36_0:=zf_ BK444.out 0
       have hfz36_1:=zf_ BK444.out 1
       have hfz36_2:=zf_ BK444.out 2
       go_wp2_with (first|((with_reducible refine gate_callee (f:=21) rfl ?_);refine goesL_ (some 31) rfl rfl Tryz.func21 (by kernel_rfl) rfl #[.string ((rd_T49 l0_0 x24_2).f0)] rfl zq_ ?_;(with_reducible refine (impl_RuleName.calls k2 ((rd_T49 l0_0 x24_2).f0) true _ A18.out).mono ?_);rintro e w' ⟨rfl,⟨nd,rfl⟩⟩;refine ⟨_,rfl,?_⟩;have hcz37_0 : w15.cell? ⟨gb440,0,none⟩ = some (.slice (some ad443) l0_0.length c0_0):=(zc_ BK440.out 0).trans rfl;have hfz37_0:=zf_ BK440.out 0)|(go_at_call 22;(with_reducible refine (impl_RuleAt.calls _ _ l0_0 ((rd_T49 l0_0 x24_2).f0) t446 _ ?side1 ?side2 A20.out).mono ?_);(case side1 => exact Kd.C_below HR0_0.out zG_);(case side2 => exact HC0_0.out);rintro e w38 ⟨rfl,hb⟩;have n0_:=zm_ (blk_below (g:=gb440) (o:=.cells #[.slice (some ad443) l0_0.length c0_0] 29 (0,0)) zt19_4 hb);have n1_:=zm_ (blk_below (g:=gb444) (o:=.cells #[.string ((rd_T49 l0_0 x24_2).f0),.slice A443_1 ((rd_T49 l0_0 x24_2).f1).length c443_1,.slice A443_2 ((rd_T49 l0_0 x24_2).f2).length c443_2] 49 (0,0)) zt19_2 hb);have n2_:=zm_ (below_step zG_ hb);clear BK440;clear BK444;clear HB;have BK440:=n0_;have BK444:=n1_;have HB:=n2_;clear n0_ n1_ n2_;(try clear hb)))
       go_meet
       case rel => exact ⟨_,(true),zV_,H',⟨by have:=HJ1.out;have:=HK2.out;first|omega|exact Nat.le_refl _⟩,⟨zK_⟩,⟨zK_⟩,⟨zG_⟩⟩
      rw [if_pos c21] at H
      have c21b0 : (t446 == x24_2) = true:=beq_iff_eq.mpr c21
      have c21b1 : (t446 != x24_2) = false:=bne_eq_false_iff_eq.mpr c21
      clear c21
      (first|rw [c21b0]|(simp only [i64_w,i32_w];rw [c21b0])|skip)
      obtain ⟨t447,A22,H⟩:=zJ_ H
      try dsimp only at H
      by_cases c23 : t447 = true
      rotate_left
      ·replace c23:=Bool.eq_false_iff.mpr c23
       subst c23
       rw [zF_] at H
       have H':=zm_ H
       clear H
       have hnb30:=NB444_440.out
       have hnc30:=NB440_444.out
       have hcz31_0 : w15.cell? ⟨gb444,0,none⟩ = some (.string (⟨#[]⟩ : ByteArray)):=(zc_ BK444.out 0).trans rfl
       have hcz31_1 : w15.cell? ⟨gb444,1,none⟩ = some (.slice none 0 0):=(zc_ BK444.out 1).trans rfl
       have hcz31_2 : w15.cell? ⟨gb444,2,none⟩ = some (.slice none 0 0):=(zc_ BK444.out 2).trans rfl
       have hfz31_0:=zf_ BK444.out 0
       have hfz31_1:=zf_ BK444.out 1
       have hfz31_2:=zf_ BK444.out 2
       go_wp2_with (first|((with_reducible refine gate_callee (f:=21) rfl ?_);refine goesL_ (some 31) rfl rfl Tryz.func21 (by kernel_rfl) rfl #[.string ((rd_T49 l0_0 x24_2).f0)] rfl zq_ ?_;(with_reducible refine (impl_RuleName.calls k2 ((rd_T49 l0_0 x24_2).f0) true _ A18.out).mono ?_);rintro e w' ⟨rfl,⟨nd,rfl⟩⟩;refine ⟨_,rfl,?_⟩;have hcz32_0 : w15.cell? ⟨gb440,0,none⟩ = some (.slice (some ad443) l0_0.length c0_0):=(zc_ BK440.out 0).trans rfl;have hfz32_0:=zf_ BK440.out 0)|(go_at_call 22;(with_reducible refine (impl_RuleAt.calls _ _ l0_0 ((rd_T49 l0_0 x24_2).f0) t446 _ ?side1 ?side2 A20.out).mono ?_);(case side1 => exact Kd.C_below HR0_0.out zG_);(case side2 => exact HC0_0.out);rintro e w33 ⟨rfl,hb⟩;have n0_:=zm_ (blk_below (g:=gb440) (o:=.cells #[.slice (some ad443) l0_0.length c0_0] 29 (0,0)) zt19_4 hb);have n1_:=zm_ (blk_below (g:=gb444) (o:=.cells #[.string ((rd_T49 l0_0 x24_2).f0),.slice A443_1 ((rd_T49 l0_0 x24_2).f1).length c443_1,.slice A443_2 ((rd_T49 l0_0 x24_2).f2).length c443_2] 49 (0,0)) zt19_2 hb);have n2_:=zm_ (below_step zG_ hb);clear BK440;clear BK444;clear HB;have BK440:=n0_;have BK444:=n1_;have HB:=n2_;clear n0_ n1_ n2_;(try clear hb);have hcz34_0 : w33.cell? ⟨gb444,0,none⟩ = some (.string ((rd_T49 l0_0 x24_2).f0)):=(zc_ BK444.out 0).trans rfl;have hcz34_1 : w33.cell? ⟨gb444,1,none⟩ = some (.slice A443_1 ((rd_T49 l0_0 x24_2).f1).length c443_1):=(zc_ BK444.out 1).trans rfl;have hcz34_2 : w33.cell? ⟨gb444,2,none⟩ = some (.slice A443_2 ((rd_T49 l0_0 x24_2).f2).length c443_2):=(zc_ BK444.out 2).trans rfl;have hfz34_0:=zf_ BK444.out 0;have hfz34_1:=zf_ BK444.out 1;have hfz34_2:=zf_ BK444.out 2)|(go_at_call 23;(with_reducible refine (impl_paramsOk.calls k2 _ _ ((rd_T49 l0_0 x24_2).f1) false _ ?side1 ?side2 A22.out).mono ?_);(case side1 => exact zP_);(case side2 => exact HC443_1.out);rintro e w' ⟨rfl,⟨nd,rfl⟩⟩))
       go_meet
       case rel => exact ⟨_,(true),zV_,H',⟨by have:=HJ1.out;have:=HK2.out;first|omega|exact Nat.le_refl _⟩,⟨zK_⟩,⟨zK_⟩,⟨zG_⟩⟩
      subst c23
      rw [if_pos rfl] at H
      obtain ⟨t448,A24,H⟩:=zJ_ H
      try dsimp only at H
      have H':=zm_ H
      clear H
      have hnb25:=NB444_440.out
      have hnc25:=NB440_444.out
      have hcz26_0 : w15.cell? ⟨gb444,0,none⟩ = some (.string (⟨#[]⟩ : ByteArray)):=(zc_ BK444.out 0).trans rfl
      have hcz26_1 : w15.cell? ⟨gb444,1,none⟩ = some (.slice none 0 0):=(zc_ BK444.out 1).trans rfl
      have hcz26_2 : w15.cell? ⟨gb444,2,none⟩ = some (.slice none 0 0):=(zc_ BK444.out 2).trans rfl
      have hfz26_0:=zf_ BK444.out 0
      have hfz26_1:=zf_ BK444.out 1
      have hfz26_2:=zf_ BK444.out 2
      go_wp2_with (first|((with_reducible refine gate_callee (f:=21) rfl ?_);refine goesL_ (some 31) rfl rfl Tryz.func21 (by kernel_rfl) rfl #[.string ((rd_T49 l0_0 x24_2).f0)] rfl zq_ ?_;(with_reducible refine (impl_RuleName.calls k2 ((rd_T49 l0_0 x24_2).f0) true _ A18.out).mono ?_);rintro e w' ⟨rfl,⟨nd,rfl⟩⟩;refine ⟨_,rfl,?_⟩;have hcz27_0 : w15.cell? ⟨gb440,0,none⟩ = some (.slice (some ad443) l0_0.length c0_0):=(zc_ BK440.out 0).trans rfl;have hfz27_0:=zf_ BK440.out 0)|(go_at_call 22;(with_reducible refine (impl_RuleAt.calls _ _ l0_0 ((rd_T49 l0_0 x24_2).f0) t446 _ ?side1 ?side2 A20.out).mono ?_);(case side1 => exact Kd.C_below HR0_0.out zG_);(case side2 => exact HC0_0.out);rintro e w28 ⟨rfl,hb⟩;have n0_:=zm_ (blk_below (g:=gb440) (o:=.cells #[.slice (some ad443) l0_0.length c0_0] 29 (0,0)) zt19_4 hb);have n1_:=zm_ (blk_below (g:=gb444) (o:=.cells #[.string ((rd_T49 l0_0 x24_2).f0),.slice A443_1 ((rd_T49 l0_0 x24_2).f1).length c443_1,.slice A443_2 ((rd_T49 l0_0 x24_2).f2).length c443_2] 49 (0,0)) zt19_2 hb);have n2_:=zm_ (below_step zG_ hb);clear BK440;clear BK444;clear HB;have BK440:=n0_;have BK444:=n1_;have HB:=n2_;clear n0_ n1_ n2_;(try clear hb);have hcz29_0 : w28.cell? ⟨gb444,0,none⟩ = some (.string ((rd_T49 l0_0 x24_2).f0)):=(zc_ BK444.out 0).trans rfl;have hcz29_1 : w28.cell? ⟨gb444,1,none⟩ = some (.slice A443_1 ((rd_T49 l0_0 x24_2).f1).length c443_1):=(zc_ BK444.out 1).trans rfl;have hcz29_2 : w28.cell? ⟨gb444,2,none⟩ = some (.slice A443_2 ((rd_T49 l0_0 x24_2).f2).length c443_2):=(zc_ BK444.out 2).trans rfl;have hfz29_0:=zf_ BK444.out 0;have hfz29_1:=zf_ BK444.out 1;have hfz29_2:=zf_ BK444.out 2)|(go_at_call 23;(with_reducible refine (impl_paramsOk.calls k2 _ _ ((rd_T49 l0_0 x24_2).f1) true _ ?side1 ?side2 A22.out).mono ?_);(case side1 => exact zP_);(case side2 => exact HC443_1.out);rintro e w' ⟨rfl,⟨nd,rfl⟩⟩)|(go_at_call 20;(with_reducible refine (impl_within.calls (((rd_T49 l0_0 x24_2).f2).length : Int) 1 8 t448 _ A24.out).mono ?_);rintro e w' ⟨rfl,⟨nd,rfl⟩⟩))
      go_meet
      case rel => exact ⟨_,(!t448),zV_,H',⟨by have:=HJ1.out;have:=HK2.out;first|omega|exact Nat.le_refl _⟩,⟨zK_⟩,⟨zK_⟩,⟨zG_⟩⟩
     case rest =>
      clear HC14
      obtain ⟨kq,x53_13,rfl,HA,HJ13,BK440,BK444,HB⟩:=hcut
      cases kq with
      |zero => exact absurd HA.out (by simp [impl_GrammarOk.j2])
      |succ kj13 =>
       have H:=HA.out
       clear HA
       simp only [impl_GrammarOk.j2] at H
       by_cases c41 : x53_13 = true
       ·subst c41
        rw [if_pos rfl] at H
        obtain rfl:=zi_ H
        go_wp2
        go_ret
        exact ⟨zE_,zG_⟩
       replace c41:=Bool.eq_false_iff.mpr c41
       subst c41
       rw [zF_] at H
       have H':=zm_ H
       clear H
       have hnb42:=NB444_440.out
       have hnc42:=NB440_444.out
       have hcz43_0 : wc.cell? ⟨gb444,0,none⟩ = some (.string ((rd_T49 l0_0 x24_2).f0)):=(zc_ BK444.out 0).trans rfl
       have hcz43_1 : wc.cell? ⟨gb444,1,none⟩ = some (.slice A443_1 ((rd_T49 l0_0 x24_2).f1).length c443_1):=(zc_ BK444.out 1).trans rfl
       have hcz43_2 : wc.cell? ⟨gb444,2,none⟩ = some (.slice A443_2 ((rd_T49 l0_0 x24_2).f2).length c443_2):=(zc_ BK444.out 2).trans rfl
       have hfz43_0:=zf_ BK444.out 0
       have hfz43_1:=zf_ BK444.out 1
       have hfz43_2:=zf_ BK444.out 2
       go_wp2
       go_loopg [57] kj13 (fun kq v57 w' => ∃ (x57_4 : Int),v57 = .int .i64 x57_4 ∧ Aside0 (impl_GrammarOk.l1 kq l0_0 (l0_0.length : Int) x24_2 ((rd_T49 l0_0 x24_2).f2) (((rd_T49 l0_0 x24_2).f2).length : Int) x57_4 l0_0 ((rd_T49 l0_0 x24_2).f0) ((rd_T49 l0_0 x24_2).f1) ((rd_T49 l0_0 x24_2).f2) = some r) ∧ Aside0 (kq ≤ kj13) ∧ Aside0 (w'.heap[gb440]? = some (.cells #[(.slice (some ad443) l0_0.length c0_0)] 29 (0,0))) ∧ Aside0 (w'.heap[gb444]? = some (.cells #[.string ((rd_T49 l0_0 x24_2).f0),(.slice A443_1 ((rd_T49 l0_0 x24_2).f1).length c443_1),(.slice A443_2 ((rd_T49 l0_0 x24_2).f2).length c443_2)] 49 (0,0))) ∧ Aside0 (Below w.heap.size w w'))
       case atStart => exact ⟨(0),zV_,H',⟨Nat.le_refl _⟩,⟨zK_⟩,⟨zK_⟩,⟨zG_⟩⟩
       case round =>
        clear H'
        obtain ⟨x57_4,rfl,HA,HK4,BK440,BK444,HB⟩:=hrel
        cases gk with
        |zero => exact absurd HA.out (by simp [impl_GrammarOk.l1])
        |succ k4 =>
         have H:=HA.out
         clear HA
         simp only [impl_GrammarOk.l1] at H
         by_cases c44 : x57_4 < (((rd_T49 l0_0 x24_2).f2).length : Int)
         rotate_left
         ·rw [if_neg c44] at H
          have c44b0:=decide_eq_false c44
          clear c44
          have H':=zm_ H
          clear H
          go_wp2
          go_roundg k4
          case measure => have:=HJ1.out;have:=HK2.out;have:=HJ13.out;have:=HK4.out;omega
          case rel => exact ⟨(wrap64 (x24_2 + 1)),zV_,H',⟨by have:=HJ1.out;have:=HK2.out;have:=HJ13.out;have:=HK4.out;omega⟩,⟨zK_⟩,⟨zG_⟩⟩
         rw [if_pos c44] at H
         have c44b0:=decide_eq_true c44
         clear c44
         by_cases c45 : 0 ≤ x57_4
         rotate_left
         ·rw [if_neg c45] at H
          cases H
         rw [if_pos c45] at H
         have c45b0:=decide_eq_true c45
         clear c45
         by_cases c46 : x57_4 < (((rd_T49 l0_0 x24_2).f2).length : Int)
         rotate_left
         ·rw [if_neg c46] at H
          cases H
         rw [if_pos c46] at H
         have c46b0:=decide_eq_true c46
         clear c46
         obtain ⟨t451,A47,H⟩:=zJ_ H
         try dsimp only at H
         by_cases c48 : t451 = true
         rotate_left
         ·replace c48:=Bool.eq_false_iff.mpr c48
          subst c48
          rw [zF_] at H
          obtain rfl:=zi_ H
          have p449 : 0 ≤ (x57_4 : Int):=zo_
          have q449 : x57_4 < (((rd_T49 l0_0 x24_2).f2).length : Int):=zo_
          obtain ⟨ad449,A449_0,c449_0,e449,hx449_0,hl449_0,hi449_0⟩:=at_T57 HR443_2.out x57_4 p449 q449
          cases e449
          replace hx449_0:=(HB.out.cell (zb_ w _ hx449_0)).trans hx449_0
          have HR449_0:=zm_ hi449_0
          have HC449_0:=zm_ hl449_0
          clear hi449_0 hl449_0
          replace p449:=eq_true p449
          replace q449:=eq_true q449
          go_wp2_with (first|((with_reducible refine gate_dst (N:=6) rfl ?_);(try (refine gate_guard (by rfl) ?_;dsimp only));refine box_event ?hg (N:=6) ?hd (cs:=#[.slice none 0 0]) (t:=57) ?hr ?_;(case hd => rfl);(case hg => rfl);(case hr => first|(go_simp;done)|(go_simp;rfl));intro gb450 hg w57 hbox hb;have n0_:=zm_ (blk_below (g:=gb440) (o:=.cells #[.slice (some ad443) l0_0.length c0_0] 29 (0,0)) zK_ hb);have n1_:=zm_ (blk_below (g:=gb444) (o:=.cells #[.string ((rd_T49 l0_0 x24_2).f0),.slice A443_1 ((rd_T49 l0_0 x24_2).f1).length c443_1,.slice (some ad449) ((rd_T49 l0_0 x24_2).f2).length c443_2] 49 (0,0)) zK_ hb);have n2_:=zm_ (below_step zG_ hb);have n3_:=zm_ (hbox);have n4_:=zm_ ((by rw [hg];exact (below_size zG_) : w.heap.size ≤ gb450));have n5_:=zm_ ((by rw [hg];exact (below_size zG_) : w.heap.size ≤ gb450));have n6_:=zm_ ((zt19_8 : gb440 ≠ gb450));have n7_:=zm_ ((zt19_9 : gb450 ≠ gb440));have n8_:=zm_ ((zt19_10 : gb444 ≠ gb450));have n9_:=zm_ ((zt19_11 : gb450 ≠ gb444));clear BK440;clear BK444;clear HB;have BK440:=n0_;have BK444:=n1_;have HB:=n2_;have BK450:=n3_;have GW450:=n4_;have GE450:=n5_;have NB440_450:=n6_;have NB450_440:=n7_;have NB444_450:=n8_;have NB450_444:=n9_;clear n0_ n1_ n2_ n3_ n4_ n5_ n6_ n7_ n8_ n9_;clear hb hbox hg;have hnb58:=NB450_440.out;have hnc58:=NB440_450.out;have hnb59:=NB450_444.out;have hnc59:=NB444_450.out;have hcz60_0 : w57.cell? ⟨gb450,0,none⟩ = some (.slice none 0 0):=(zc_ BK450.out 0).trans rfl;have hfz60_0:=zf_ BK450.out 0;have hnb61:=NB440_444.out;have hnc61:=NB444_440.out;have hcz62_0 : w57.cell? ⟨gb440,0,none⟩ = some (.slice (some ad443) l0_0.length c0_0):=(zc_ BK440.out 0).trans rfl;have hfz62_0:=zf_ BK440.out 0;have hcz63_0 : w57.cell? ⟨gb444,0,none⟩ = some (.string ((rd_T49 l0_0 x24_2).f0)):=(zc_ BK444.out 0).trans rfl;have hcz63_1 : w57.cell? ⟨gb444,1,none⟩ = some (.slice A443_1 ((rd_T49 l0_0 x24_2).f1).length c443_1):=(zc_ BK444.out 1).trans rfl;have hcz63_2 : w57.cell? ⟨gb444,2,none⟩ = some (.slice (some ad449) ((rd_T49 l0_0 x24_2).f2).length c443_2):=(zc_ BK444.out 2).trans rfl;have hfz63_0:=zf_ BK444.out 0;have hfz63_1:=zf_ BK444.out 1;have hfz63_2:=zf_ BK444.out 2)|((with_reducible refine gate_callee (f:=24) rfl ?_);refine goesL_ (some 65) rfl rfl Tryz.func24 (by kernel_rfl) rfl #[.agg #[.slice (some ad443) l0_0.length c0_0],.agg #[.slice A449_0 ((rd_T57 ((rd_T49 l0_0 x24_2).f2) x57_4).f0).length c449_0],.slice A443_1 ((rd_T49 l0_0 x24_2).f1).length c443_1] rfl zq_ ?_;(with_reducible refine (impl_altOk.calls k4 _ _ l0_0 _ _ ((rd_T57 ((rd_T49 l0_0 x24_2).f2) x57_4).f0) _ _ ((rd_T49 l0_0 x24_2).f1) false _ ?side1 ?side2 ?side3 ?side4 ?side5 ?side6 A47.out).mono ?_);(case side1 => exact Kd.C_below HR0_0.out zG_);(case side2 => exact HC0_0.out);(case side3 => exact Kd.C_below HR449_0.out zG_);(case side4 => exact HC449_0.out);(case side5 => exact Kd.C_below HR443_1.out zG_);(case side6 => exact HC443_1.out);rintro e w64 ⟨rfl,hb⟩;refine ⟨_,rfl,?_⟩;have n0_:=zm_ (blk_below (g:=gb440) (o:=.cells #[.slice (some ad443) l0_0.length c0_0] 29 (0,0)) zt19_13 hb);have n1_:=zm_ (blk_below (g:=gb444) (o:=.cells #[.string ((rd_T49 l0_0 x24_2).f0),.slice A443_1 ((rd_T49 l0_0 x24_2).f1).length c443_1,.slice (some ad449) ((rd_T49 l0_0 x24_2).f2).length c443_2] 49 (0,0)) zt19_14 hb);have n2_:=zm_ (blk_below (g:=gb450) (o:=.cells #[.slice A449_0 ((rd_T57 ((rd_T49 l0_0 x24_2).f2) x57_4).f0).length c449_0] 57 (0,0)) zt19_12 hb);have n3_:=zm_ (below_step zG_ hb);clear BK440;clear BK444;clear BK450;clear HB;have BK440:=n0_;have BK444:=n1_;have BK450:=n2_;have HB:=n3_;clear n0_ n1_ n2_ n3_;(try clear hb)))
          go_ret
          exact ⟨zE_,zG_⟩
         subst c48
         rw [if_pos rfl] at H
         have H':=zm_ H
         clear H
         have p449 : 0 ≤ (x57_4 : Int):=zo_
         have q449 : x57_4 < (((rd_T49 l0_0 x24_2).f2).length : Int):=zo_
         obtain ⟨ad449,A449_0,c449_0,e449,hx449_0,hl449_0,hi449_0⟩:=at_T57 HR443_2.out x57_4 p449 q449
         cases e449
         replace hx449_0:=(HB.out.cell (zb_ w _ hx449_0)).trans hx449_0
         have HR449_0:=zm_ hi449_0
         have HC449_0:=zm_ hl449_0
         clear hi449_0 hl449_0
         replace p449:=eq_true p449
         replace q449:=eq_true q449
         go_wp2_with (first|((with_reducible refine gate_dst (N:=6) rfl ?_);(try (refine gate_guard (by rfl) ?_;dsimp only));refine box_event ?hg (N:=6) ?hd (cs:=#[.slice none 0 0]) (t:=57) ?hr ?_;(case hd => rfl);(case hg => rfl);(case hr => first|(go_simp;done)|(go_simp;rfl));intro gb450 hg w49 hbox hb;have n0_:=zm_ (blk_below (g:=gb440) (o:=.cells #[.slice (some ad443) l0_0.length c0_0] 29 (0,0)) zK_ hb);have n1_:=zm_ (blk_below (g:=gb444) (o:=.cells #[.string ((rd_T49 l0_0 x24_2).f0),.slice A443_1 ((rd_T49 l0_0 x24_2).f1).length c443_1,.slice (some ad449) ((rd_T49 l0_0 x24_2).f2).length c443_2] 49 (0,0)) zK_ hb);have n2_:=zm_ (below_step zG_ hb);have n3_:=zm_ (hbox);have n4_:=zm_ ((by rw [hg];exact (below_size zG_) : w.heap.size ≤ gb450));have n5_:=zm_ ((by rw [hg];exact (below_size zG_) : w.heap.size ≤ gb450));have n6_:=zm_ ((zt19_8 : gb440 ≠ gb450));have n7_:=zm_ ((zt19_9 : gb450 ≠ gb440));have n8_:=zm_ ((zt19_10 : gb444 ≠ gb450));have n9_:=zm_ ((zt19_11 : gb450 ≠ gb444));clear BK440;clear BK444;clear HB;have BK440:=n0_;have BK444:=n1_;have HB:=n2_;have BK450:=n3_;have GW450:=n4_;have GE450:=n5_;have NB440_450:=n6_;have NB450_440:=n7_;have NB444_450:=n8_;have NB450_444:=n9_;clear n0_ n1_ n2_ n3_ n4_ n5_ n6_ n7_ n8_ n9_;clear hb hbox hg;have hnb50:=NB450_440.out;have hnc50:=NB440_450.out;have hnb51:=NB450_444.out;have hnc51:=NB444_450.out;have hcz52_0 : w49.cell? ⟨gb450,0,none⟩ = some (.slice none 0 0):=(zc_ BK450.out 0).trans rfl;have hfz52_0:=zf_ BK450.out 0;have hnb53:=NB440_444.out;have hnc53:=NB444_440.out;have hcz54_0 : w49.cell? ⟨gb440,0,none⟩ = some (.slice (some ad443) l0_0.length c0_0):=(zc_ BK440.out 0).trans rfl;have hfz54_0:=zf_ BK440.out 0;have hcz55_0 : w49.cell? ⟨gb444,0,none⟩ = some (.string ((rd_T49 l0_0 x24_2).f0)):=(zc_ BK444.out 0).trans rfl;have hcz55_1 : w49.cell? ⟨gb444,1,none⟩ = some (.slice A443_1 ((rd_T49 l0_0 x24_2).f1).length c443_1):=(zc_ BK444.out 1).trans rfl;have hcz55_2 : w49.cell? ⟨gb444,2,none⟩ = some (.slice (some ad449) ((rd_T49 l0_0 x24_2).f2).length c443_2):=(zc_ BK444.out 2).trans rfl;have hfz55_0:=zf_ BK444.out 0;have hfz55_1:=zf_ BK444.out 1;have hfz55_2:=zf_ BK444.out 2)|((with_reducible refine gate_callee (f:=24) rfl ?_);refine goesL_ (some 65) rfl rfl Tryz.func24 (by kernel_rfl) rfl #[.agg #[.slice (some ad443) l0_0.length c0_0],.agg #[.slice A449_0 ((rd_T57 ((rd_T49 l0_0 x24_2).f2) x57_4).f0).length c449_0],.slice A443_1 ((rd_T49 l0_0 x24_2).f1).length c443_1] rfl zq_ ?_;(with_reducible refine (impl_altOk.calls k4 _ _ l0_0 _ _ ((rd_T57 ((rd_T49 l0_0 x24_2).f2) x57_4).f0) _ _ ((rd_T49 l0_0 x24_2).f1) true _ ?side1 ?side2 ?side3 ?side4 ?side5 ?side6 A47.out).mono ?_);(case side1 => exact Kd.C_below HR0_0.out zG_);(case side2 => exact HC0_0.out);(case side3 => exact Kd.C_below HR449_0.out zG_);(case side4 => exact HC449_0.out);(case side5 => exact Kd.C_below HR443_1.out zG_);(case side6 => exact HC443_1.out);rintro e w56 ⟨rfl,hb⟩;refine ⟨_,rfl,?_⟩;have n0_:=zm_ (blk_below (g:=gb440) (o:=.cells #[.slice (some ad443) l0_0.length c0_0] 29 (0,0)) zt19_13 hb);have n1_:=zm_ (blk_below (g:=gb444) (o:=.cells #[.string ((rd_T49 l0_0 x24_2).f0),.slice A443_1 ((rd_T49 l0_0 x24_2).f1).length c443_1,.slice (some ad449) ((rd_T49 l0_0 x24_2).f2).length c443_2] 49 (0,0)) zt19_14 hb);have n2_:=zm_ (blk_below (g:=gb450) (o:=.cells #[.slice A449_0 ((rd_T57 ((rd_T49 l0_0 x24_2).f2) x57_4).f0).length c449_0] 57 (0,0)) zt19_12 hb);have n3_:=zm_ (below_step zG_ hb);clear BK440;clear BK444;clear BK450;clear HB;have BK440:=n0_;have BK444:=n1_;have BK450:=n2_;have HB:=n3_;clear n0_ n1_ n2_ n3_;(try clear hb)))
         go_roundg k4
         case measure => have:=HJ1.out;have:=HK2.out;have:=HJ13.out;have:=HK4.out;omega
         case rel => exact ⟨(wrap64 (x57_4 + 1)),zV_,H',⟨by have:=HJ1.out;have:=HK2.out;have:=HJ13.out;have:=HK4.out;omega⟩,⟨zK_⟩,⟨zK_⟩,⟨zG_⟩⟩
def laws_eqStringS.l0 : Nat → List ByteArray → List ByteArray → Int → Option (Bool)
 |0,_,_,_ => none
 |k + 1,x0,x1,x5 => if x5 < (x0.length : Int) then (if 0 ≤ x5 then (if x5 < (x1.length : Int) then (if (rdOf ByteArray.empty x0 x5).toList = (rdOf ByteArray.empty x1 x5).toList then (laws_eqStringS.l0 k x0 x1 (wrap64 (x5 + 1))) else (none)) else (none)) else (none)) else (some true)
def laws_eqStringS.f (k : Nat) (l0 : List ByteArray) (l1 : List ByteArray) : Option (Bool):=if (l0.length : Int) = (l1.length : Int) then (laws_eqStringS.l0 k l0 l1 0) else (none)
theorem laws_eqStringS.calls (k : Nat) (A0 : Option Addr) (c0 : Nat) (l0 : List ByteArray) (A1 : Option Addr) (c1 : Nat) (l1 : List ByteArray) (r : Bool) (w : World) (hr0 : Kd.C Kd.string w A0 l0.length l0) (hc0 : l0.length ≤ c0) (hr1 : Kd.C Kd.string w A1 l1.length l1) (hc1 : l1.length ≤ c1) (h : laws_eqStringS.f k l0 l1 = some r) :
  Calls Tryz.prog 77 #[.slice A0 l0.length c0,.slice A1 l1.length c1] w fun e w' => e = .returned (.bool r) ∧ Drawn0 w w':=by
 have HR0:=zm_ hr0
 have HC0:=zm_ hc0
 clear hr0 hc0
 have HR1:=zm_ hr1
 have HC1:=zm_ hc1
 clear hr1 hc1
 have H : (if (l0.length : Int) = (l1.length : Int) then (laws_eqStringS.l0 k l0 l1 0) else (none)) = some r:=h
 clear h
 by_cases c3 : (l0.length : Int) = (l1.length : Int)
 rotate_left
 ·rw [if_neg c3] at H
  cases H


 rw [if_pos c3] at H
 have c3b0 : ((l0.length : Int) == (l1.length : Int)) = true:=beq_iff_eq.mpr c3
 have c3b1 : ((l0.length : Int) != (l1.length : Int)) = false:=bne_eq_false_iff_eq.mpr c3
 have c3b2 : (l0.length == l1.length) = true:=by first|simpa using c3|(simp at c3 ⊢;omega)
 clear c3
 have H':=zm_ H
 clear H
 go_enter Tryz.func77,Tryz.ntmps77
 go_wp2
 repeat (go_quiet (fail);try go_wp2)
 go_loopg [5] k (fun kq v5 w' => ∃ (x5_1 : Int),v5 = .int .i64 x5_1 ∧ Aside0 (laws_eqStringS.l0 kq l0 l1 x5_1 = some r) ∧ Aside0 (kq ≤ k) ∧ Drawn0 w w')
 case atStart => exact ⟨(0),zV_,H',⟨Nat.le_refl _⟩,by repeat (first|exact Drawn0.refl _|apply Drawn0.step)⟩
 case round =>
  clear H'
  obtain ⟨x5_1,rfl,HA,HK1,⟨m1,rfl⟩⟩:=hrel
  cases gk with
  |zero => exact absurd HA.out (by simp [laws_eqStringS.l0])
  |succ k1 =>
   have H:=HA.out
   clear HA
   simp only [laws_eqStringS.l0] at H
   by_cases c4 : x5_1 < (l0.length : Int)
   rotate_left
   ·rw [if_neg c4] at H
    have c4b0:=decide_eq_false c4
    clear c4
    obtain rfl:=zi_ H
    go_wp2
    repeat (go_quiet (fail);try go_wp2)
    go_ret
    exact zX_
   rw [if_pos c4] at H
   have c4b0:=decide_eq_true c4
   clear c4
   by_cases c5 : 0 ≤ x5_1
   rotate_left
   ·rw [if_neg c5] at H
    cases H
   rw [if_pos c5] at H
   have c5b0:=decide_eq_true c5
   clear c5
   by_cases c6 : x5_1 < (l1.length : Int)
   rotate_left
   ·rw [if_neg c6] at H
    cases H
   rw [if_pos c6] at H
   have c6b0:=decide_eq_true c6
   clear c6
   by_cases c7 : (rdOf ByteArray.empty l0 x5_1).toList = (rdOf ByteArray.empty l1 x5_1).toList
   rotate_left
   ·rw [if_neg c7] at H
    cases H
   rw [if_pos c7] at H
   have c7b0 : ((rdOf ByteArray.empty l0 x5_1).toList == (rdOf ByteArray.empty l1 x5_1).toList) = true:=beq_iff_eq.mpr c7
   have c7b1 : ((rdOf ByteArray.empty l0 x5_1).toList != (rdOf ByteArray.empty l1 x5_1).toList) = false:=bne_eq_false_iff_eq.mpr c7
   clear c7
   have H':=zm_ H
   clear H
   have p452 : 0 ≤ (x5_1 : Int):=zo_
   have q452 : x5_1 < (l0.length : Int):=zo_
   obtain ⟨ad452,e452,hx452_0⟩:=Kd.at_string HR0.out x5_1 p452 q452
   cases e452
   replace p452:=eq_true p452
   replace q452:=eq_true q452
   have p453 : 0 ≤ (x5_1 : Int):=zo_
   have q453 : x5_1 < (l1.length : Int):=zo_
   obtain ⟨ad453,e453,hx453_0⟩:=Kd.at_string HR1.out x5_1 p453 q453
   cases e453
   replace p453:=eq_true p453
   replace q453:=eq_true q453
   go_wp2
   repeat (go_quiet (fail);try go_wp2)
   go_roundg k1
   case measure => have:=HK1.out;omega
   case rel => exact ⟨(wrap64 (x5_1 + 1)),zV_,H',⟨by have:=HK1.out;omega⟩,by repeat (first|exact Drawn0.refl _|apply Drawn0.step)⟩
end Go.Proofs.YtkbgmojomgelbaaGreat.MFnExactGrammarOk
