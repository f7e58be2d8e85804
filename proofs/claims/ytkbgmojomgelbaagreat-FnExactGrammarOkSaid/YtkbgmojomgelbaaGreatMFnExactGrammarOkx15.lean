import Derived.Test.YtkbgmojomgelbaaGreatMFnExactGrammarOkx0
import Derived.Test.YtkbgmojomgelbaaGreatMFnExactGrammarOkx12
import Derived.Test.YtkbgmojomgelbaaGreatMFnExactGrammarOkx14
namespace Go.Proofs.YtkbgmojomgelbaaGreat.MFnExactGrammarOk
open Go.RowKit Go.Proofs.YtkbgmojomgelbaaGreatW.PrintWords Go.Proofs.YtkbgmojomgelbaaGreatW.PrintLast Go.Proofs.YtkbgmojomgelbaaGreatW.PrintMore
attribute [local go_sem] max2_int min2_int max_two min_two max_three min_three max_four min_four
set_option linter.unusedVariables false
set_option linter.unusedSimpArgs false
set_option maxHeartbeats 8000000
set_option maxRecDepth 100000
theorem zt15_3 {p : Prop} (h : p := by (with_reducible repeat first|refine zl_ ?_ _|refine zr_ ?_|refine zk_ ?_ _);refine blk_far ?_ NB391_393.out _;(with_reducible repeat first|refine zl_ ?_ _|refine zr_ ?_|refine zk_ ?_ _);refine blk_far ?_ NB391_393.out _;(with_reducible repeat first|refine zl_ ?_ _|refine zr_ ?_|refine zk_ ?_ _);refine blk_far ?_ NB391_393.out _;(with_reducible repeat first|refine zl_ ?_ _|refine zr_ ?_|refine zk_ ?_ _);refine blk_far ?_ NB391_393.out _;(with_reducible repeat first|refine zl_ ?_ _|refine zr_ ?_|refine zk_ ?_ _);exact BK391.out) : p := h
theorem zt15_1 {p : Prop} (h : p := by (with_reducible repeat first|refine zl_ ?_ _|refine zr_ ?_|refine zk_ ?_ _);refine blk_put (cs:=#[.int .i64 ((rd_T147 l0_0 x8_1).f0),.int .i64 ((rd_T147 l0_0 x8_1).f1),.string ((rd_T147 l0_0 x8_1).f2),.slice none 0 0]) ?_ 3 _ rfl;(with_reducible repeat first|refine zl_ ?_ _|refine zr_ ?_|refine zk_ ?_ _);refine blk_put (cs:=#[.int .i64 ((rd_T147 l0_0 x8_1).f0),.int .i64 ((rd_T147 l0_0 x8_1).f1),.string (⟨#[]⟩ : ByteArray),.slice none 0 0]) ?_ 2 _ rfl;(with_reducible repeat first|refine zl_ ?_ _|refine zr_ ?_|refine zk_ ?_ _);refine blk_put (cs:=#[.int .i64 ((rd_T147 l0_0 x8_1).f0),.int .i64 0,.string (⟨#[]⟩ : ByteArray),.slice none 0 0]) ?_ 1 _ rfl;(with_reducible repeat first|refine zl_ ?_ _|refine zr_ ?_|refine zk_ ?_ _);refine blk_put (cs:=#[.int .i64 0,.int .i64 0,.string (⟨#[]⟩ : ByteArray),.slice none 0 0]) ?_ 0 _ rfl;(with_reducible repeat first|refine zl_ ?_ _|refine zr_ ?_|refine zk_ ?_ _);exact BK393.out) : p := h

def impl_kidCount.f (a0 : Int) : Option (Int):=(impl_within.f a0 1 3).bind fun t379 => (if t379 = true then (some 0) else ((impl_within.f a0 4 10).bind fun t380 => (if t380 = true then (some 2) else (if a0 = 11 then (some 1) else (some (-1))))))
theorem impl_kidCount.calls (a0 : Int) (r : Int) (w : World) (h : impl_kidCount.f a0 = some r) :
  Calls Tryz.prog 138 #[.int .i64 a0] w fun e w' => e = .returned (.int .i64 r) ∧ Drawn0 w w':=by
 have H : ((impl_within.f a0 1 3).bind fun t379 => (if t379 = true then (some 0) else ((impl_within.f a0 4 10).bind fun t380 => (if t380 = true then (some 2) else (if a0 = 11 then (some 1) else (some (-1))))))) = some r:=h
 clear h
 obtain ⟨t379,A2,H⟩:=zJ_ H
 try dsimp only at H
 by_cases c3 : t379 = true
 ·subst c3
  rw [if_pos rfl] at H
  obtain rfl:=zi_ H
  go_enter Tryz.func138,Tryz.ntmps138
  go_wp2_with (first|((with_reducible refine gate_callee (f:=20) rfl ?_);refine goesL_ (some 5) rfl rfl Tryz.func20 (by kernel_rfl) rfl #[.int .i64 a0,.int .i64 1,.int .i64 3] rfl zq_ ?_;(with_reducible refine (impl_within.calls a0 1 3 true _ A2.out).mono ?_);rintro e w' ⟨rfl,⟨nd,rfl⟩⟩;refine ⟨_,rfl,?_⟩))
  go_ret
  exact zX_
 replace c3:=Bool.eq_false_iff.mpr c3
 subst c3
 rw [zF_] at H
 obtain ⟨t380,A4,H⟩:=zJ_ H
 try dsimp only at H
 by_cases c5 : t380 = true
 ·subst c5
  rw [if_pos rfl] at H
  obtain rfl:=zi_ H
  go_enter Tryz.func138,Tryz.ntmps138
  go_wp2_with (first|((with_reducible refine gate_callee (f:=20) rfl ?_);refine goesL_ (some 5) rfl rfl Tryz.func20 (by kernel_rfl) rfl #[.int .i64 a0,.int .i64 1,.int .i64 3] rfl zq_ ?_;(with_reducible refine (impl_within.calls a0 1 3 false _ A2.out).mono ?_);rintro e w' ⟨rfl,⟨nd,rfl⟩⟩;refine ⟨_,rfl,?_⟩)|((with_reducible refine gate_callee (f:=20) rfl ?_);refine goesL_ (some 8) rfl rfl Tryz.func20 (by kernel_rfl) rfl #[.int .i64 a0,.int .i64 4,.int .i64 10] rfl zq_ ?_;(with_reducible refine (impl_within.calls a0 4 10 true _ A4.out).mono ?_);rintro e w' ⟨rfl,⟨nd,rfl⟩⟩;refine ⟨_,rfl,?_⟩))
  go_ret
  exact zX_
 replace c5:=Bool.eq_false_iff.mpr c5
 subst c5
 rw [zF_] at H
 by_cases c6 : a0 = 11
 rotate_left
 ·rw [if_neg c6] at H
  have c6b0 : (a0 == 11) = false:=beq_eq_false_iff_ne.mpr c6
  have c6b1 : (a0 != 11) = true:=bne_iff_ne.mpr c6
  obtain rfl:=zi_ H
  go_enter Tryz.func138,Tryz.ntmps138
  go_wp2_with (first|((with_reducible refine gate_callee (f:=20) rfl ?_);refine goesL_ (some 5) rfl rfl Tryz.func20 (by kernel_rfl) rfl #[.int .i64 a0,.int .i64 1,.int .i64 3] rfl zq_ ?_;(with_reducible refine (impl_within.calls a0 1 3 false _ A2.out).mono ?_);rintro e w' ⟨rfl,⟨nd,rfl⟩⟩;refine ⟨_,rfl,?_⟩)|((with_reducible refine gate_callee (f:=20) rfl ?_);refine goesL_ (some 8) rfl rfl Tryz.func20 (by kernel_rfl) rfl #[.int .i64 a0,.int .i64 4,.int .i64 10] rfl zq_ ?_;(with_reducible refine (impl_within.calls a0 4 10 false _ A4.out).mono ?_);rintro e w' ⟨rfl,⟨nd,rfl⟩⟩;refine ⟨_,rfl,?_⟩))
  go_ret
  exact zX_


 rw [if_pos c6] at H
 have c6b0 : (a0 == 11) = true:=beq_iff_eq.mpr c6
 have c6b1 : (a0 != 11) = false:=bne_eq_false_iff_eq.mpr c6
 clear c6
 obtain rfl:=zi_ H
 go_enter Tryz.func138,Tryz.ntmps138
 go_wp2_with (first|((with_reducible refine gate_callee (f:=20) rfl ?_);refine goesL_ (some 5) rfl rfl Tryz.func20 (by kernel_rfl) rfl #[.int .i64 a0,.int .i64 1,.int .i64 3] rfl zq_ ?_;(with_reducible refine (impl_within.calls a0 1 3 false _ A2.out).mono ?_);rintro e w' ⟨rfl,⟨nd,rfl⟩⟩;refine ⟨_,rfl,?_⟩)|((with_reducible refine gate_callee (f:=20) rfl ?_);refine goesL_ (some 8) rfl rfl Tryz.func20 (by kernel_rfl) rfl #[.int .i64 a0,.int .i64 4,.int .i64 10] rfl zq_ ?_;(with_reducible refine (impl_within.calls a0 4 10 false _ A4.out).mono ?_);rintro e w' ⟨rfl,⟨nd,rfl⟩⟩;refine ⟨_,rfl,?_⟩))
 go_ret
 exact zX_
def impl_exNodeOk.j0 : Nat → Bool → Int → Int → ByteArray → List Int → Option (Bool)
 |0,_,_,_,_,_ => none
 |k + 1,x20,x382000,x382001,x382002,x382003 => if x20 = true then (some false) else (if x382001 = 0 then (if x382002.toList = ([] : List UInt8) then (if x382000 = 2 then ((impl_VarName.f k x382002).bind fun t384 => (some t384)) else (some true)) else (if x382000 = 2 then ((impl_VarName.f k x382002).bind fun t385 => (some t385)) else (some false))) else (if x382000 = 1 then ((impl_within.f x382001 0 99).bind fun t386 => (if x382002.toList = ([] : List UInt8) then (if x382000 = 2 then ((impl_VarName.f k x382002).bind fun t387 => (if t386 = true then (some t387) else (some false))) else (if t386 = true then (some true) else (some false))) else (if x382000 = 2 then ((impl_VarName.f k x382002).bind fun t388 => (if t386 = true then (some t388) else (some false))) else (if t386 = true then (some false) else (some false))))) else (if x382002.toList = ([] : List UInt8) then (if x382000 = 2 then ((impl_VarName.f k x382002).bind fun t389 => (some false)) else (some false)) else (if x382000 = 2 then ((impl_VarName.f k x382002).bind fun t390 => (some false)) else (some false)))))
def impl_exNodeOk.f (k : Nat) (a0_0 : Int) (a0_1 : Int) (a0_2 : ByteArray) (l0_3 : List Int) (a1 : Int) : Option (Bool):=(impl_kidCount.f a0_0).bind fun t382 => (if (l0_3.length : Int) = t382 then ((impl_kidsAhead.f k l0_3 a1).bind fun t383 => (impl_exNodeOk.j0 k (!t383) a0_0 a0_1 a0_2 l0_3)) else (impl_exNodeOk.j0 k true a0_0 a0_1 a0_2 l0_3))
theorem impl_exNodeOk.calls (k : Nat) (a0_0 : Int) (a0_1 : Int) (a0_2 : ByteArray) (A0_3 : Option Addr) (c0_3 : Nat) (l0_3 : List Int) (a1 : Int) (r : Bool) (w : World) (hr0_3 : Kd.C (Kd.int .i64) w A0_3 l0_3.length l0_3) (hc0_3 : l0_3.length ≤ c0_3) (h : impl_exNodeOk.f k a0_0 a0_1 a0_2 l0_3 a1 = some r) :
  Calls Tryz.prog 126 #[.agg #[.int .i64 a0_0,.int .i64 a0_1,.string a0_2,.slice A0_3 l0_3.length c0_3],.int .i64 a1] w fun e w' => e = .returned (.bool r) ∧ Below w.heap.size w w':=by
 have hu147:=Tryz.underlying147
 have HR0_3:=zm_ hr0_3
 have HC0_3:=zm_ hc0_3
 clear hr0_3 hc0_3
 have HB:=zm_ (Below.refl w.heap.size w)
 have H : ((impl_kidCount.f a0_0).bind fun t382 => (if (l0_3.length : Int) = t382 then ((impl_kidsAhead.f k l0_3 a1).bind fun t383 => (impl_exNodeOk.j0 k (!t383) a0_0 a0_1 a0_2 l0_3)) else (impl_exNodeOk.j0 k true a0_0 a0_1 a0_2 l0_3))) = some r:=h
 clear h
 have HC3:=zm_ H
 clear H
 go_enter Tryz.func126,Tryz.ntmps126
 go_upto_region 1 with (first|((with_reducible refine gate_dst (N:=2) rfl ?_);refine box_event ?hg (N:=2) ?hd (cs:=#[.int .i64 a0_0,.int .i64 a0_1,.string a0_2,.slice A0_3 l0_3.length c0_3]) (t:=147) ?hr ?_;(case hd => rfl);(case hg => rfl);(case hr => first|(go_simp;done)|(go_simp;rfl));intro gb381 hg w4 hbox hb;have n0_:=zm_ (below_step zB_ hb);have n1_:=zm_ (hbox);have n2_:=zm_ ((by rw [hg];exact (below_size zB_) : w.heap.size ≤ gb381));have n3_:=zm_ ((by rw [hg];exact (below_size zB_) : w.heap.size ≤ gb381));clear HB;have HB:=n0_;have BK381:=n1_;have GW381:=n2_;have GE381:=n3_;clear n0_ n1_ n2_ n3_;clear hb hbox hg))
 repeat (go_quiet (first|((with_reducible refine gate_dst (N:=2) rfl ?_);refine box_event ?hg (N:=2) ?hd (cs:=#[.int .i64 a0_0,.int .i64 a0_1,.string a0_2,.slice A0_3 l0_3.length c0_3]) (t:=147) ?hr ?_;(case hd => rfl);(case hg => rfl);(case hr => first|(go_simp;done)|(go_simp;rfl));intro gb381 hg w4 hbox hb;have n0_:=zm_ (below_step zB_ hb);have n1_:=zm_ (hbox);have n2_:=zm_ ((by rw [hg];exact (below_size zB_) : w.heap.size ≤ gb381));have n3_:=zm_ ((by rw [hg];exact (below_size zB_) : w.heap.size ≤ gb381));clear HB;have HB:=n0_;have BK381:=n1_;have GW381:=n2_;have GE381:=n3_;clear n0_ n1_ n2_ n3_;clear hb hbox hg));go_upto_region 1 with (first|((with_reducible refine gate_dst (N:=2) rfl ?_);refine box_event ?hg (N:=2) ?hd (cs:=#[.int .i64 a0_0,.int .i64 a0_1,.string a0_2,.slice A0_3 l0_3.length c0_3]) (t:=147) ?hr ?_;(case hd => rfl);(case hg => rfl);(case hr => first|(go_simp;done)|(go_simp;rfl));intro gb381 hg w4 hbox hb;have n0_:=zm_ (below_step zB_ hb);have n1_:=zm_ (hbox);have n2_:=zm_ ((by rw [hg];exact (below_size zB_) : w.heap.size ≤ gb381));have n3_:=zm_ ((by rw [hg];exact (below_size zB_) : w.heap.size ≤ gb381));clear HB;have HB:=n0_;have BK381:=n1_;have GW381:=n2_;have GE381:=n3_;clear n0_ n1_ n2_ n3_;clear hb hbox hg)))
 (try simp only [Act.put,List.setIfInBounds_toArray,List.set_cons_zero,List.set_cons_succ])
 go_cut [20] (fun v20 wc => ∃ (kq : Nat) (x20_2 : Bool),v20 = .bool x20_2 ∧ Aside0 (impl_exNodeOk.j0 kq x20_2 a0_0 a0_1 a0_2 l0_3 = some r) ∧ Aside0 (kq ≤ k) ∧ Aside0 (wc.heap[gb381]? = some (.cells #[.int .i64 a0_0,.int .i64 a0_1,.string a0_2,(.slice A0_3 l0_3.length c0_3)] 147 (0,0))) ∧ Aside0 (Below w.heap.size w wc))
 case first =>
  have H:=HC3.out
  clear HC3
  obtain ⟨t382,A5,H⟩:=zJ_ H
  try dsimp only at H
  by_cases c6 : (l0_3.length : Int) = t382
  rotate_left
  ·rw [if_neg c6] at H
   have c6b0 : ((l0_3.length : Int) == t382) = false:=beq_eq_false_iff_ne.mpr c6
   have c6b1 : ((l0_3.length : Int) != t382) = true:=bne_iff_ne.mpr c6
   (first|rw [c6b0]|(simp only [i64_w,i32_w];rw [c6b0])|skip)
   have H':=zm_ H
   clear H
   have hcz9_0 : w4.cell? ⟨gb381,0,none⟩ = some (.int .i64 a0_0):=(zc_ BK381.out 0).trans rfl
   have hcz9_1 : w4.cell? ⟨gb381,1,none⟩ = some (.int .i64 a0_1):=(zc_ BK381.out 1).trans rfl
   have hcz9_2 : w4.cell? ⟨gb381,2,none⟩ = some (.string a0_2):=(zc_ BK381.out 2).trans rfl
   have hcz9_3 : w4.cell? ⟨gb381,3,none⟩ = some (.slice A0_3 l0_3.length c0_3):=(zc_ BK381.out 3).trans rfl
   have hfz9_0:=zf_ BK381.out 0
   have hfz9_1:=zf_ BK381.out 1
   have hfz9_2:=zf_ BK381.out 2
   have hfz9_3:=zf_ BK381.out 3
   go_wp2_with (first|(go_at_call 138;(with_reducible refine (impl_kidCount.calls a0_0 t382 _ A5.out).mono ?_);rintro e w' ⟨rfl,⟨nd,rfl⟩⟩;(try exact zY_)))
   repeat (go_quiet (first|(go_at_call 138;(with_reducible refine (impl_kidCount.calls a0_0 t382 _ A5.out).mono ?_);rintro e w' ⟨rfl,⟨nd,rfl⟩⟩;(try exact zY_)));try go_wp2_with (first|(go_at_call 138;(with_reducible refine (impl_kidCount.calls a0_0 t382 _ A5.out).mono ?_);rintro e w' ⟨rfl,⟨nd,rfl⟩⟩;(try exact zY_))))
   go_meet
   case rel => exact ⟨_,(true),zV_,H',⟨by first|omega|exact Nat.le_refl _⟩,⟨zK_⟩,⟨zG_⟩⟩
  rw [if_pos c6] at H
  have c6b0 : ((l0_3.length : Int) == t382) = true:=beq_iff_eq.mpr c6
  have c6b1 : ((l0_3.length : Int) != t382) = false:=bne_eq_false_iff_eq.mpr c6
  clear c6
  (first|rw [c6b0]|(simp only [i64_w,i32_w];rw [c6b0])|skip)
  obtain ⟨t383,A7,H⟩:=zJ_ H
  try dsimp only at H
  have H':=zm_ H
  clear H
  have hcz8_0 : w4.cell? ⟨gb381,0,none⟩ = some (.int .i64 a0_0):=(zc_ BK381.out 0).trans rfl
  have hcz8_1 : w4.cell? ⟨gb381,1,none⟩ = some (.int .i64 a0_1):=(zc_ BK381.out 1).trans rfl
  have hcz8_2 : w4.cell? ⟨gb381,2,none⟩ = some (.string a0_2):=(zc_ BK381.out 2).trans rfl
  have hcz8_3 : w4.cell? ⟨gb381,3,none⟩ = some (.slice A0_3 l0_3.length c0_3):=(zc_ BK381.out 3).trans rfl
  have hfz8_0:=zf_ BK381.out 0
  have hfz8_1:=zf_ BK381.out 1
  have hfz8_2:=zf_ BK381.out 2
  have hfz8_3:=zf_ BK381.out 3
  go_wp2_with (first|(go_at_call 138;(with_reducible refine (impl_kidCount.calls a0_0 t382 _ A5.out).mono ?_);rintro e w' ⟨rfl,⟨nd,rfl⟩⟩;(try exact zY_))|(go_at_call 54;(with_reducible refine (impl_kidsAhead.calls k _ _ l0_3 a1 t383 _ ?side1 ?side2 A7.out).mono ?_);(case side1 => repeat (first|exact (Kd.C_below HR0_3.out zG_)|(with_reducible refine Kd.C_alloc ?_ _)|(with_reducible refine Kd.C_drewN ?_ _)|(with_reducible refine Kd.C_drew ?_)));(case side2 => exact HC0_3.out);rintro e w' ⟨rfl,⟨nd,rfl⟩⟩;(try exact zY_)))
  repeat (go_quiet (first|(go_at_call 138;(with_reducible refine (impl_kidCount.calls a0_0 t382 _ A5.out).mono ?_);rintro e w' ⟨rfl,⟨nd,rfl⟩⟩;(try exact zY_))|(go_at_call 54;(with_reducible refine (impl_kidsAhead.calls k _ _ l0_3 a1 t383 _ ?side1 ?side2 A7.out).mono ?_);(case side1 => repeat (first|exact (Kd.C_below HR0_3.out zG_)|(with_reducible refine Kd.C_alloc ?_ _)|(with_reducible refine Kd.C_drewN ?_ _)|(with_reducible refine Kd.C_drew ?_)));(case side2 => exact HC0_3.out);rintro e w' ⟨rfl,⟨nd,rfl⟩⟩;(try exact zY_)));try go_wp2_with (first|(go_at_call 138;(with_reducible refine (impl_kidCount.calls a0_0 t382 _ A5.out).mono ?_);rintro e w' ⟨rfl,⟨nd,rfl⟩⟩;(try exact zY_))|(go_at_call 54;(with_reducible refine (impl_kidsAhead.calls k _ _ l0_3 a1 t383 _ ?side1 ?side2 A7.out).mono ?_);(case side1 => repeat (first|exact (Kd.C_below HR0_3.out zG_)|(with_reducible refine Kd.C_alloc ?_ _)|(with_reducible refine Kd.C_drewN ?_ _)|(with_reducible refine Kd.C_drew ?_)));(case side2 => exact HC0_3.out);rintro e w' ⟨rfl,⟨nd,rfl⟩⟩;(try exact zY_))))
  go_meet
  case rel => exact ⟨_,(!t383),zV_,H',⟨by first|omega|exact Nat.le_refl _⟩,⟨zK_⟩,⟨zG_⟩⟩
 case rest =>
  clear HC3
  obtain ⟨kq,x20_2,rfl,HA,HJ2,BK381,HB⟩:=hcut
  cases kq with
  |zero => exact absurd HA.out (by simp [impl_exNodeOk.j0])
  |succ kj2 =>
   have H:=HA.out
   clear HA
   simp only [impl_exNodeOk.j0] at H
   by_cases c10 : x20_2 = true
   ·subst c10
    rw [if_pos rfl] at H
    obtain rfl:=zi_ H
    go_wp2
    repeat (go_quiet (fail);try go_wp2)
    go_ret
    exact ⟨zE_,zG_⟩
   replace c10:=Bool.eq_false_iff.mpr c10
   subst c10
   rw [zF_] at H
   by_cases c11 : a0_1 = 0
   ·rw [if_pos c11] at H
    have c11b0 : (a0_1 == 0) = true:=beq_iff_eq.mpr c11
    have c11b1 : (a0_1 != 0) = false:=bne_eq_false_iff_eq.mpr c11
    clear c11
    by_cases c12 : a0_2.toList = ([] : List UInt8)
    rotate_left
    ·rw [if_neg c12] at H
     have c12b0 : (a0_2.toList == ([] : List UInt8)) = false:=beq_eq_false_iff_ne.mpr c12
     have c12b1 : (a0_2.toList != ([] : List UInt8)) = true:=bne_iff_ne.mpr c12
     by_cases c17 : a0_0 = 2
     rotate_left
     ·rw [if_neg c17] at H
      have c17b0 : (a0_0 == 2) = false:=beq_eq_false_iff_ne.mpr c17
      have c17b1 : (a0_0 != 2) = true:=bne_iff_ne.mpr c17
      obtain rfl:=zi_ H
      have hcz20_0 : wc.cell? ⟨gb381,0,none⟩ = some (.int .i64 a0_0):=(zc_ BK381.out 0).trans rfl
      have hcz20_1 : wc.cell? ⟨gb381,1,none⟩ = some (.int .i64 a0_1):=(zc_ BK381.out 1).trans rfl
      have hcz20_2 : wc.cell? ⟨gb381,2,none⟩ = some (.string a0_2):=(zc_ BK381.out 2).trans rfl
      have hcz20_3 : wc.cell? ⟨gb381,3,none⟩ = some (.slice A0_3 l0_3.length c0_3):=(zc_ BK381.out 3).trans rfl
      have hfz20_0:=zf_ BK381.out 0
      have hfz20_1:=zf_ BK381.out 1
      have hfz20_2:=zf_ BK381.out 2
      have hfz20_3:=zf_ BK381.out 3
      go_wp2
      repeat (go_quiet (fail);try go_wp2)
      go_ret
      exact ⟨zE_,zG_⟩
     rw [if_pos c17] at H
     have c17b0 : (a0_0 == 2) = true:=beq_iff_eq.mpr c17
     have c17b1 : (a0_0 != 2) = false:=bne_eq_false_iff_eq.mpr c17
     clear c17
     obtain ⟨t385,A18,H⟩:=zJ_ H
     try dsimp only at H
     obtain rfl:=zi_ H
     have hcz19_0 : wc.cell? ⟨gb381,0,none⟩ = some (.int .i64 a0_0):=(zc_ BK381.out 0).trans rfl
     have hcz19_1 : wc.cell? ⟨gb381,1,none⟩ = some (.int .i64 a0_1):=(zc_ BK381.out 1).trans rfl
     have hcz19_2 : wc.cell? ⟨gb381,2,none⟩ = some (.string a0_2):=(zc_ BK381.out 2).trans rfl
     have hcz19_3 : wc.cell? ⟨gb381,3,none⟩ = some (.slice A0_3 l0_3.length c0_3):=(zc_ BK381.out 3).trans rfl
     have hfz19_0:=zf_ BK381.out 0
     have hfz19_1:=zf_ BK381.out 1
     have hfz19_2:=zf_ BK381.out 2
     have hfz19_3:=zf_ BK381.out 3
     go_wp2_with (first|(go_at_call 42;(with_reducible refine (impl_VarName.calls kj2 a0_2 t385 _ A18.out).mono ?_);rintro e w' ⟨rfl,⟨nd,rfl⟩⟩;(try exact zY_)))
     repeat (go_quiet (first|(go_at_call 42;(with_reducible refine (impl_VarName.calls kj2 a0_2 t385 _ A18.out).mono ?_);rintro e w' ⟨rfl,⟨nd,rfl⟩⟩;(try exact zY_)));try go_wp2_with (first|(go_at_call 42;(with_reducible refine (impl_VarName.calls kj2 a0_2 t385 _ A18.out).mono ?_);rintro e w' ⟨rfl,⟨nd,rfl⟩⟩;(try exact zY_))))
     go_ret
     exact ⟨zE_,zG_⟩
    rw [if_pos c12] at H
    have c12b0 : (a0_2.toList == ([] : List UInt8)) = true:=beq_iff_eq.mpr c12
    have c12b1 : (a0_2.toList != ([] : List UInt8)) = false:=bne_eq_false_iff_eq.mpr c12
    clear c12
    by_cases c13 : a0_0 = 2
    rotate_left
    ·rw [if_neg c13] at H
     have c13b0 : (a0_0 == 2) = false:=beq_eq_false_iff_ne.mpr c13
     have c13b1 : (a0_0 != 2) = true:=bne_iff_ne.mpr c13
     obtain rfl:=zi_ H
     have hcz16_0 : wc.cell? ⟨gb381,0,none⟩ = some (.int .i64 a0_0):=(zc_ BK381.out 0).trans rfl
     have hcz16_1 : wc.cell? ⟨gb381,1,none⟩ = some (.int .i64 a0_1):=(zc_ BK381.out 1).trans rfl
     have hcz16_2 : wc.cell? ⟨gb381,2,none⟩ = some (.string a0_2):=(zc_ BK381.out 2).trans rfl
     have hcz16_3 : wc.cell? ⟨gb381,3,none⟩ = some (.slice A0_3 l0_3.length c0_3):=(zc_ BK381.out 3).trans rfl
     have hfz16_0:=zf_ BK381.out 0
     have hfz16_1:=zf_ BK381.out 1
     have hfz16_2:=zf_ BK381.out 2
     have hfz16_3:=zf_ BK381.out 3
     go_wp2
     repeat (go_quiet (fail);try go_wp2)
     go_ret
     exact ⟨zE_,zG_⟩
    rw [if_pos c13] at H
    have c13b0 : (a0_0 == 2) = true:=beq_iff_eq.mpr c13
    have c13b1 : (a0_0 != 2) = false:=bne_eq_false_iff_eq.mpr c13
    clear c13
    obtain ⟨t384,A14,H⟩:=zJ_ H
    try dsimp only at H
    obtain rfl:=zi_ H
    have hcz15_0 : wc.cell? ⟨gb381,0,none⟩ = some (.int .i64 a0_0):=(zc_ BK381.out 0).trans rfl
    have hcz15_1 : wc.cell? ⟨gb381,1,none⟩ = some (.int .i64 a0_1):=(zc_ BK381.out 1).trans rfl
    have hcz15_2 : wc.cell? ⟨gb381,2,none⟩ = some (.string a0_2):=(zc_ BK381.out 2).trans rfl
    have hcz15_3 : wc.cell? ⟨gb381,3,none⟩ = some (.slice A0_3 l0_3.length c0_3):=(zc_ BK381.out 3).trans rfl
    have hfz15_0:=zf_ BK381.out 0
    have hfz15_1:=zf_ BK381.out 1
    have hfz15_2:=zf_ BK381.out 2
    have hfz15_3:=zf_ BK381.out 3
    go_wp2_with (first|(go_at_call 42;(with_reducible refine (impl_VarName.calls kj2 a0_2 t384 _ A14.out).mono ?_);rintro e w' ⟨rfl,⟨nd,rfl⟩⟩;(try exact zY_)))
    repeat (go_quiet (first|(go_at_call 42;(with_reducible refine (impl_VarName.calls kj2 a0_2 t384 _ A14.out).mono ?_);rintro e w' ⟨rfl,⟨nd,rfl⟩⟩;(try exact zY_)));try go_wp2_with (first|(go_at_call 42;(with_reducible refine (impl_VarName.calls kj2 a0_2 t384 _ A14.out).mono ?_);rintro e w' ⟨rfl,⟨nd,rfl⟩⟩;(try exact zY_))))
    go_ret
    exact ⟨zE_,zG_⟩
   rw [if_neg c11] at H
   have c11b0 : (a0_1 == 0) = false:=beq_eq_false_iff_ne.mpr c11
   have c11b1 : (a0_1 != 0) = true:=bne_iff_ne.mpr c11
   by_cases c21 : a0_0 = 1
   rotate_left
   ·rw [if_neg c21] at H
    have c21b0 : (a0_0 == 1) = false:=beq_eq_false_iff_ne.mpr c21
    have c21b1 : (a0_0 != 1) = true:=bne_iff_ne.mpr c21
    by_cases c40 : a0_2.toList = ([] : List UInt8)
    rotate_left
    ·rw [if_neg c40] at H
     have c40b0 : (a0_2.toList == ([] : List UInt8)) = false:=beq_eq_false_iff_ne.mpr c40
     have c40b1 : (a0_2.toList != ([] : List UInt8)) = true:=bne_iff_ne.mpr c40
     by_cases c45 : a0_0 = 2
     rotate_left
     ·rw [if_neg c45] at H
      have c45b0 : (a0_0 == 2) = false:=beq_eq_false_iff_ne.mpr c45
      have c45b1 : (a0_0 != 2) = true:=bne_iff_ne.mpr c45
      obtain rfl:=zi_ H
      have hcz48_0 : wc.cell? ⟨gb381,0,none⟩ = some (.int .i64 a0_0):=(zc_ BK381.out 0).trans rfl
      have hcz48_1 : wc.cell? ⟨gb381,1,none⟩ = some (.int .i64 a0_1):=(zc_ BK381.out 1).trans rfl
      have hcz48_2 : wc.cell? ⟨gb381,2,none⟩ = some (.string a0_2):=(zc_ BK381.out 2).trans rfl
      have hcz48_3 : wc.cell? ⟨gb381,3,none⟩ = some (.slice A0_3 l0_3.length c0_3):=(zc_ BK381.out 3).trans rfl
      have hfz48_0:=zf_ BK381.out 0
      have hfz48_1:=zf_ BK381.out 1
      have hfz48_2:=zf_ BK381.out 2
      have hfz48_3:=zf_ BK381.out 3
      go_wp2
      repeat (go_quiet (fail);try go_wp2)
      go_ret
      exact ⟨zE_,zG_⟩


     rw [if_pos c45] at H
     have c45b0 : (a0_0 == 2) = true:=beq_iff_eq.mpr c45
     have c45b1 : (a0_0 != 2) = false:=bne_eq_false_iff_eq.mpr c45
     clear c45
     obtain ⟨t390,A46,H⟩:=zJ_ H
     try dsimp only at H
     obtain rfl:=zi_ H
     have hcz47_0 : wc.cell? ⟨gb381,0,none⟩ = some (.int .i64 a0_0):=(zc_ BK381.out 0).trans rfl
     have hcz47_1 : wc.cell? ⟨gb381,1,none⟩ = some (.int .i64 a0_1):=(zc_ BK381.out 1).trans rfl
     have hcz47_2 : wc.cell? ⟨gb381,2,none⟩ = some (.string a0_2):=(zc_ BK381.out 2).trans rfl
     have hcz47_3 : wc.cell? ⟨gb381,3,none⟩ = some (.slice A0_3 l0_3.length c0_3):=(zc_ BK381.out 3).trans rfl
     have hfz47_0:=zf_ BK381.out 0
     have hfz47_1:=zf_ BK381.out 1
     have hfz47_2:=zf_ BK381.out 2
     have hfz47_3:=zf_ BK381.out 3
     go_wp2_with (first|(go_at_call 42;(with_reducible refine (impl_VarName.calls kj2 a0_2 t390 _ A46.out).mono ?_);rintro e w' ⟨rfl,⟨nd,rfl⟩⟩;(try exact zY_)))
     repeat (go_quiet (first|(go_at_call 42;(with_reducible refine (impl_VarName.calls kj2 a0_2 t390 _ A46.out).mono ?_);rintro e w' ⟨rfl,⟨nd,rfl⟩⟩;(try exact zY_)));try go_wp2_with (first|(go_at_call 42;(with_reducible refine (impl_VarName.calls kj2 a0_2 t390 _ A46.out).mono ?_);rintro e w' ⟨rfl,⟨nd,rfl⟩⟩;(try exact zY_))))
     go_ret
     exact ⟨zE_,zG_⟩
    rw [if_pos c40] at H
    have c40b0 : (a0_2.toList == ([] : List UInt8)) = true:=beq_iff_eq.mpr c40
    have c40b1 : (a0_2.toList != ([] : List UInt8)) = false:=bne_eq_false_iff_eq.mpr c40
    clear c40
    by_cases c41 : a0_0 = 2
    rotate_left
    ·rw [if_neg c41] at H
     have c41b0 : (a0_0 == 2) = false:=beq_eq_false_iff_ne.mpr c41
     have c41b1 : (a0_0 != 2) = true:=bne_iff_ne.mpr c41
     obtain rfl:=zi_ H
     have hcz44_0 : wc.cell? ⟨gb381,0,none⟩ = some (.int .i64 a0_0):=(zc_ BK381.out 0).trans rfl
     have hcz44_1 : wc.cell? ⟨gb381,1,none⟩ = some (.int .i64 a0_1):=(zc_ BK381.out 1).trans rfl
     have hcz44_2 : wc.cell? ⟨gb381,2,none⟩ = some (.string a0_2):=(zc_ BK381.out 2).trans rfl
     have hcz44_3 : wc.cell? ⟨gb381,3,none⟩ = some (.slice A0_3 l0_3.length c0_3):=(zc_ BK381.out 3).trans rfl
     have hfz44_0:=zf_ BK381.out 0
     have hfz44_1:=zf_ BK381.out 1
     have hfz44_2:=zf_ BK381.out 2
     have hfz44_3:=zf_ BK381.out 3
     go_wp2
     repeat (go_quiet (fail);try go_wp2)
     go_ret
     exact ⟨zE_,zG_⟩
    rw [if_pos c41] at H
    have c41b0 : (a0_0 == 2) = true:=beq_iff_eq.mpr c41
    have c41b1 : (a0_0 != 2) = false:=bne_eq_false_iff_eq.mpr c41
    clear c41
    obtain ⟨t389,A42,H⟩:=zJ_ H
    try dsimp only at H
    obtain rfl:=zi_ H
    have hcz43_0 : wc.cell? ⟨gb381,0,none⟩ = some (.int .i64 a0_0):=(zc_ BK381.out 0).trans rfl
    have hcz43_1 : wc.cell? ⟨gb381,1,none⟩ = some (.int .i64 a0_1):=(zc_ BK381.out 1).trans rfl
    have hcz43_2 : wc.cell? ⟨gb381,2,none⟩ = some (.string a0_2):=(zc_ BK381.out 2).trans rfl
    have hcz43_3 : wc.cell? ⟨gb381,3,none⟩ = some (.slice A0_3 l0_3.length c0_3):=(zc_ BK381.out 3).trans rfl
    have hfz43_0:=zf_ BK381.out 0
    have hfz43_1:=zf_ BK381.out 1
    have hfz43_2:=zf_ BK381.out 2
    have hfz43_3:=zf_ BK381.out 3
    go_wp2_with (first|(go_at_call 42;(with_reducible refine (impl_VarName.calls kj2 a0_2 t389 _ A42.out).mono ?_);rintro e w' ⟨rfl,⟨nd,rfl⟩⟩;(try exact zY_)))
    repeat (go_quiet (first|(go_at_call 42;(with_reducible refine (impl_VarName.calls kj2 a0_2 t389 _ A42.out).mono ?_);rintro e w' ⟨rfl,⟨nd,rfl⟩⟩;(try exact zY_)));try go_wp2_with (first|(go_at_call 42;(with_reducible refine (impl_VarName.calls kj2 a0_2 t389 _ A42.out).mono ?_);rintro e w' ⟨rfl,⟨nd,rfl⟩⟩;(try exact zY_))))
    go_ret
    exact ⟨zE_,zG_⟩
   rw [if_pos c21] at H
   have c21b0 : (a0_0 == 1) = true:=beq_iff_eq.mpr c21
   have c21b1 : (a0_0 != 1) = false:=bne_eq_false_iff_eq.mpr c21
   clear c21
   obtain ⟨t386,A22,H⟩:=zJ_ H
   try dsimp only at H
   by_cases c23 : a0_2.toList = ([] : List UInt8)
   rotate_left
   ·rw [if_neg c23] at H
    have c23b0 : (a0_2.toList == ([] : List UInt8)) = false:=beq_eq_false_iff_ne.mpr c23
    have c23b1 : (a0_2.toList != ([] : List UInt8)) = true:=bne_iff_ne.mpr c23
    by_cases c32 : a0_0 = 2
    rotate_left
    ·rw [if_neg c32] at H
     have c32b0 : (a0_0 == 2) = false:=beq_eq_false_iff_ne.mpr c32
     have c32b1 : (a0_0 != 2) = true:=bne_iff_ne.mpr c32
     by_cases c37 : t386 = true
     ·subst c37
      rw [if_pos rfl] at H
      obtain rfl:=zi_ H
      have hcz38_0 : wc.cell? ⟨gb381,0,none⟩ = some (.int .i64 a0_0):=(zc_ BK381.out 0).trans rfl
      have hcz38_1 : wc.cell? ⟨gb381,1,none⟩ = some (.int .i64 a0_1):=(zc_ BK381.out 1).trans rfl
      have hcz38_2 : wc.cell? ⟨gb381,2,none⟩ = some (.string a0_2):=(zc_ BK381.out 2).trans rfl
      have hcz38_3 : wc.cell? ⟨gb381,3,none⟩ = some (.slice A0_3 l0_3.length c0_3):=(zc_ BK381.out 3).trans rfl
      have hfz38_0:=zf_ BK381.out 0
      have hfz38_1:=zf_ BK381.out 1
      have hfz38_2:=zf_ BK381.out 2
      have hfz38_3:=zf_ BK381.out 3
      go_wp2_with (first|(go_at_call 20;(with_reducible refine (impl_within.calls a0_1 0 99 true _ A22.out).mono ?_);rintro e w' ⟨rfl,⟨nd,rfl⟩⟩;(try exact zY_)))
      repeat (go_quiet (first|(go_at_call 20;(with_reducible refine (impl_within.calls a0_1 0 99 true _ A22.out).mono ?_);rintro e w' ⟨rfl,⟨nd,rfl⟩⟩;(try exact zY_)));try go_wp2_with (first|(go_at_call 20;(with_reducible refine (impl_within.calls a0_1 0 99 true _ A22.out).mono ?_);rintro e w' ⟨rfl,⟨nd,rfl⟩⟩;(try exact zY_))))
      go_ret
      exact ⟨zE_,zG_⟩
     replace c37:=Bool.eq_false_iff.mpr c37
     subst c37
     rw [zF_] at H
     obtain rfl:=zi_ H
     have hcz39_0 : wc.cell? ⟨gb381,0,none⟩ = some (.int .i64 a0_0):=(zc_ BK381.out 0).trans rfl
     have hcz39_1 : wc.cell? ⟨gb381,1,none⟩ = some (.int .i64 a0_1):=(zc_ BK381.out 1).trans rfl
     have hcz39_2 : wc.cell? ⟨gb381,2,none⟩ = some (.string a0_2):=(zc_ BK381.out 2).trans rfl
     have hcz39_3 : wc.cell? ⟨gb381,3,none⟩ = some (.slice A0_3 l0_3.length c0_3):=(zc_ BK381.out 3).trans rfl
     have hfz39_0:=zf_ BK381.out 0
     have hfz39_1:=zf_ BK381.out 1
     have hfz39_2:=zf_ BK381.out 2
     have hfz39_3:=zf_ BK381.out 3
     go_wp2_with (first|(go_at_call 20;(with_reducible refine (impl_within.calls a0_1 0 99 false _ A22.out).mono ?_);rintro e w' ⟨rfl,⟨nd,rfl⟩⟩;(try exact zY_)))
     repeat (go_quiet (first|(go_at_call 20;(with_reducible refine (impl_within.calls a0_1 0 99 false _ A22.out).mono ?_);rintro e w' ⟨rfl,⟨nd,rfl⟩⟩;(try exact zY_)));try go_wp2_with (first|(go_at_call 20;(with_reducible refine (impl_within.calls a0_1 0 99 false _ A22.out).mono ?_);rintro e w' ⟨rfl,⟨nd,rfl⟩⟩;(try exact zY_))))
     go_ret
     exact ⟨zE_,zG_⟩
    rw [if_pos c32] at H
    have c32b0 : (a0_0 == 2) = true:=beq_iff_eq.mpr c32
    have c32b1 : (a0_0 != 2) = false:=bne_eq_false_iff_eq.mpr c32
    clear c32
    obtain ⟨t388,A33,H⟩:=zJ_ H
    try dsimp only at H
    by_cases c34 : t386 = true
    ·subst c34
     rw [if_pos rfl] at H
     obtain rfl:=zi_ H
     have hcz35_0 : wc.cell? ⟨gb381,0,none⟩ = some (.int .i64 a0_0):=(zc_ BK381.out 0).trans rfl
     have hcz35_1 : wc.cell? ⟨gb381,1,none⟩ = some (.int .i64 a0_1):=(zc_ BK381.out 1).trans rfl
     have hcz35_2 : wc.cell? ⟨gb381,2,none⟩ = some (.string a0_2):=(zc_ BK381.out 2).trans rfl
     have hcz35_3 : wc.cell? ⟨gb381,3,none⟩ = some (.slice A0_3 l0_3.length c0_3):=(zc_ BK381.out 3).trans rfl
     have hfz35_0:=zf_ BK381.out 0
     have hfz35_1:=zf_ BK381.out 1
     have hfz35_2:=zf_ BK381.out 2
     have hfz35_3:=zf_ BK381.out 3
     go_wp2_with (first|(go_at_call 20;(with_reducible refine (impl_within.calls a0_1 0 99 true _ A22.out).mono ?_);rintro e w' ⟨rfl,⟨nd,rfl⟩⟩;(try exact zY_))|(go_at_call 42;(with_reducible refine (impl_VarName.calls kj2 a0_2 t388 _ A33.out).mono ?_);rintro e w' ⟨rfl,⟨nd,rfl⟩⟩;(try exact zY_)))
     repeat (go_quiet (first|(go_at_call 20;(with_reducible refine (impl_within.calls a0_1 0 99 true _ A22.out).mono ?_);rintro e w' ⟨rfl,⟨nd,rfl⟩⟩;(try exact zY_))|(go_at_call 42;(with_reducible refine (impl_VarName.calls kj2 a0_2 t388 _ A33.out).mono ?_);rintro e w' ⟨rfl,⟨nd,rfl⟩⟩;(try exact zY_)));try go_wp2_with (first|(go_at_call 20;(with_reducible refine (impl_within.calls a0_1 0 99 true _ A22.out).mono ?_);rintro e w' ⟨rfl,⟨nd,rfl⟩⟩;(try exact zY_))|(go_at_call 42;(with_reducible refine (impl_VarName.calls kj2 a0_2 t388 _ A33.out).mono ?_);rintro e w' ⟨rfl,⟨nd,rfl⟩⟩;(try exact zY_))))
     go_ret
     exact ⟨zE_,zG_⟩
    replace c34:=Bool.eq_false_iff.mpr c34
    subst c34
    rw [zF_] at H
    obtain rfl:=zi_ H
    have hcz36_0 : wc.cell? ⟨gb381,0,none⟩ = some (.int .i64 a0_0):=(zc_ BK381.out 0).trans rfl
    have hcz36_1 : wc.cell? ⟨gb381,1,none⟩ = some (.int .i64 a0_1):=(zc_ BK381.out 1).trans rfl
    have hcz36_2 : wc.cell? ⟨gb381,2,none⟩ = some (.string a0_2):=(zc_ BK381.out 2).trans rfl
    have hcz36_3 : wc.cell? ⟨gb381,3,none⟩ = some (.slice A0_3 l0_3.length c0_3):=(zc_ BK381.out 3).trans rfl
    have hfz36_0:=zf_ BK381.out 0
    have hfz36_1:=zf_ BK381.out 1
    have hfz36_2:=zf_ BK381.out 2
    have hfz36_3:=zf_ BK381.out 3
    go_wp2_with (first|(go_at_call 20;(with_reducible refine (impl_within.calls a0_1 0 99 false _ A22.out).mono ?_);rintro e w' ⟨rfl,⟨nd,rfl⟩⟩;(try exact zY_))|(go_at_call 42;(with_reducible refine (impl_VarName.calls kj2 a0_2 t388 _ A33.out).mono ?_);rintro e w' ⟨rfl,⟨nd,rfl⟩⟩;(try exact zY_)))
    repeat (go_quiet (first|(go_at_call 20;(with_reducible refine (impl_within.calls a0_1 0 99 false _ A22.out).mono ?_);rintro e w' ⟨rfl,⟨nd,rfl⟩⟩;(try exact zY_))|(go_at_call 42;(with_reducible refine (impl_VarName.calls kj2 a0_2 t388 _ A33.out).mono ?_);rintro e w' ⟨rfl,⟨nd,rfl⟩⟩;(try exact zY_)));try go_wp2_with (first|(go_at_call 20;(with_reducible refine (impl_within.calls a0_1 0 99 false _ A22.out).mono ?_);rintro e w' ⟨rfl,⟨nd,rfl⟩⟩;(try exact zY_))|(go_at_call 42;(with_reducible refine (impl_VarName.calls kj2 a0_2 t388 _ A33.out).mono ?_);rintro e w' ⟨rfl,⟨nd,rfl⟩⟩;(try exact zY_))))
    go_ret
    exact ⟨zE_,zG_⟩
   rw [if_pos c23] at H
   have c23b0 : (a0_2.toList == ([] : List UInt8)) = true:=beq_iff_eq.mpr c23
   have c23b1 : (a0_2.toList != ([] : List UInt8)) = false:=bne_eq_false_iff_eq.mpr c23
   clear c23
   by_cases c24 : a0_0 = 2
   rotate_left
   ·rw [if_neg c24] at H
    have c24b0 : (a0_0 == 2) = false:=beq_eq_false_iff_ne.mpr c24
    have c24b1 : (a0_0 != 2) = true:=bne_iff_ne.mpr c24
    by_cases c29 : t386 = true
    ·subst c29
     rw [if_pos rfl] at H
     obtain rfl:=zi_ H
     have hcz30_0 : wc.cell? ⟨gb381,0,none⟩ = some (.int .i64 a0_0):=(zc_ BK381.out 0).trans rfl
     have hcz30_1 : wc.cell? ⟨gb381,1,none⟩ = some (.int .i64 a0_1):=(zc_ BK381.out 1).trans rfl
     have hcz30_2 : wc.cell? ⟨gb381,2,none⟩ = some (.string a0_2):=(zc_ BK381.out 2).trans rfl
     have hcz30_3 : wc.cell? ⟨gb381,3,none⟩ = some (.slice A0_3 l0_3.length c0_3):=(zc_ BK381.out 3).trans rfl
     have hfz30_0:=zf_ BK381.out 0
     have hfz30_1:=zf_ BK381.out 1
     have hfz30_2:=zf_ BK381.out 2
     have hfz30_3:=zf_ BK381.out 3
     go_wp2_with (first|(go_at_call 20;(with_reducible refine (impl_within.calls a0_1 0 99 true _ A22.out).mono ?_);rintro e w' ⟨rfl,⟨nd,rfl⟩⟩;(try exact zY_)))
     repeat (go_quiet (first|(go_at_call 20;(with_reducible refine (impl_within.calls a0_1 0 99 true _ A22.out).mono ?_);rintro e w' ⟨rfl,⟨nd,rfl⟩⟩;(try exact zY_)));try go_wp2_with (first|(go_at_call 20;(with_reducible refine (impl_within.calls a0_1 0 99 true _ A22.out).mono ?_);rintro e w' ⟨rfl,⟨nd,rfl⟩⟩;(try exact zY_))))
     go_ret
     exact ⟨zE_,zG_⟩
    replace c29:=Bool.eq_false_iff.mpr c29
    subst c29
    rw [zF_] at H
    obtain rfl:=zi_ H
    have hcz31_0 : wc.cell? ⟨gb381,0,none⟩ = some (.int .i64 a0_0):=(zc_ BK381.out 0).trans rfl
    have hcz31_1 : wc.cell? ⟨gb381,1,none⟩ = some (.int .i64 a0_1):=(zc_ BK381.out 1).trans rfl
    have hcz31_2 : wc.cell? ⟨gb381,2,none⟩ = some (.string a0_2):=(zc_ BK381.out 2).trans rfl
    have hcz31_3 : wc.cell? ⟨gb381,3,none⟩ = some (.slice A0_3 l0_3.length c0_3):=(zc_ BK381.out 3).trans rfl
    have hfz31_0:=zf_ BK381.out 0
    have hfz31_1:=zf_ BK381.out 1
    have hfz31_2:=zf_ BK381.out 2
    have hfz31_3:=zf_ BK381.out 3
    go_wp2_with (first|(go_at_call 20;(with_reducible refine (impl_within.calls a0_1 0 99 false _ A22.out).mono ?_);rintro e w' ⟨rfl,⟨nd,rfl⟩⟩;(try exact zY_)))
    repeat (go_quiet (first|(go_at_call 20;(with_reducible refine (impl_within.calls a0_1 0 99 false _ A22.out).mono ?_);rintro e w' ⟨rfl,⟨nd,rfl⟩⟩;(try exact zY_)));try go_wp2_with (first|(go_at_call 20;(with_reducible refine (impl_within.calls a0_1 0 99 false _ A22.out).mono ?_);rintro e w' ⟨rfl,⟨nd,rfl⟩⟩;(try exact zY_))))
    go_ret
    exact ⟨zE_,zG_⟩
   rw [if_pos c24] at H
   have c24b0 : (a0_0 == 2) = true:=beq_iff_eq.mpr c24
   have c24b1 : (a0_0 != 2) = false:=bne_eq_false_iff_eq.mpr c24
   clear c24
   obtain ⟨t387,A25,H⟩:=zJ_ H
   try dsimp only at H
   by_cases c26 : t386 = true
   ·subst c26
    rw [if_pos rfl] at H
    obtain rfl:=zi_ H
    have hcz27_0 : wc.cell? ⟨gb381,0,none⟩ = some (.int .i64 a0_0):=(zc_ BK381.out 0).trans rfl
    have hcz27_1 : wc.cell? ⟨gb381,1,none⟩ = some (.int .i64 a0_1):=(zc_ BK381.out 1).trans rfl
    have hcz27_2 : wc.cell? ⟨gb381,2,none⟩ = some (.string a0_2):=(zc_ BK381.out 2).trans rfl
    have hcz27_3 : wc.cell? ⟨gb381,3,none⟩ = some (.slice A0_3 l0_3.length c0_3):=(zc_ BK381.out 3).trans rfl
    have hfz27_0:=zf_ BK381.out 0
    have hfz27_1:=zf_ BK381.out 1
    have hfz27_2:=zf_ BK381.out 2
    have hfz27_3:=zf_ BK381.out 3
    go_wp2_with (first|(go_at_call 20;(with_reducible refine (impl_within.calls a0_1 0 99 true _ A22.out).mono ?_);rintro e w' ⟨rfl,⟨nd,rfl⟩⟩;(try exact zY_))|(go_at_call 42;(with_reducible refine (impl_VarName.calls kj2 a0_2 t387 _ A25.out).mono ?_);rintro e w' ⟨rfl,⟨nd,rfl⟩⟩;(try exact zY_)))
    repeat (go_quiet (first|(go_at_call 20;(with_reducible refine (impl_within.calls a0_1 0 99 true _ A22.out).mono ?_);rintro e w' ⟨rfl,⟨nd,rfl⟩⟩;(try exact zY_))|(go_at_call 42;(with_reducible refine (impl_VarName.calls kj2 a0_2 t387 _ A25.out).mono ?_);rintro e w' ⟨rfl,⟨nd,rfl⟩⟩;(try exact zY_)));try go_wp2_with (first|(go_at_call 20;(with_reducible refine (impl_within.calls a0_1 0 99 true _ A22.out).mono ?_);rintro e w' ⟨rfl,⟨nd,rfl⟩⟩;(try exact zY_))|(go_at_call 42;(with_reducible refine (impl_VarName.calls kj2 a0_2 t387 _ A25.out).mono ?_);rintro e w' ⟨rfl,⟨nd,rfl⟩⟩;(try exact zY_))))
    go_ret
    exact ⟨zE_,zG_⟩
   replace c26:=Bool.eq_false_iff.mpr c26
   subst c26
   rw [zF_] at H
   obtain rfl:=zi_ H
   have hcz28_0 : wc.cell? ⟨gb381,0,none⟩ = some (.int .i64 a0_0):=(zc_ BK381.out 0).trans rfl
   have hcz28_1 : wc.cell? ⟨gb381,1,none⟩ = some (.int .i64 a0_1):=(zc_ BK381.out 1).trans rfl
   have hcz28_2 : wc.cell? ⟨gb381,2,none⟩ = some (.string a0_2):=(zc_ BK381.out 2).trans rfl
   have hcz28_3 : wc.cell? ⟨gb381,3,none⟩ = some (.slice A0_3 l0_3.length c0_3):=(zc_ BK381.out 3).trans rfl
   have hfz28_0:=zf_ BK381.out 0
   have hfz28_1:=zf_ BK381.out 1
   have hfz28_2:=zf_ BK381.out 2
   have hfz28_3:=zf_ BK381.out 3
   go_wp2_with (first|(go_at_call 20;(with_reducible refine (impl_within.calls a0_1 0 99 false _ A22.out).mono ?_);rintro e w' ⟨rfl,⟨nd,rfl⟩⟩;(try exact zY_))|(go_at_call 42;(with_reducible refine (impl_VarName.calls kj2 a0_2 t387 _ A25.out).mono ?_);rintro e w' ⟨rfl,⟨nd,rfl⟩⟩;(try exact zY_)))
   repeat (go_quiet (first|(go_at_call 20;(with_reducible refine (impl_within.calls a0_1 0 99 false _ A22.out).mono ?_);rintro e w' ⟨rfl,⟨nd,rfl⟩⟩;(try exact zY_))|(go_at_call 42;(with_reducible refine (impl_VarName.calls kj2 a0_2 t387 _ A25.out).mono ?_);rintro e w' ⟨rfl,⟨nd,rfl⟩⟩;(try exact zY_)));try go_wp2_with (first|(go_at_call 20;(with_reducible refine (impl_within.calls a0_1 0 99 false _ A22.out).mono ?_);rintro e w' ⟨rfl,⟨nd,rfl⟩⟩;(try exact zY_))|(go_at_call 42;(with_reducible refine (impl_VarName.calls kj2 a0_2 t387 _ A25.out).mono ?_);rintro e w' ⟨rfl,⟨nd,rfl⟩⟩;(try exact zY_))))
   go_ret
   exact ⟨zE_,zG_⟩
def impl_ExprOk.l0 : Nat → List (S147) → Int → Int → List (S147) → Option (Bool)
 |0,_,_,_,_ => none
 |k + 1,x6,x7,x8,x392000 => if x8 < x7 then (if 0 ≤ x8 then (if x8 < (x6.length : Int) then ((impl_exNodeOk.f k ((rd_T147 x6 x8).f0) ((rd_T147 x6 x8).f1) ((rd_T147 x6 x8).f2) ((rd_T147 x6 x8).f3) x8).bind fun t394 => (if t394 = true then (impl_ExprOk.l0 k x6 x7 (wrap64 (x8 + 1)) x392000) else (some false))) else (none)) else (none)) else ((impl_within.f (x392000.length : Int) 1 20).bind fun t395 => (some t395))
def impl_ExprOk.f (k : Nat) (l0_0 : List (S147)) : Option (Bool):=impl_ExprOk.l0 k l0_0 (l0_0.length : Int) 0 l0_0
theorem impl_ExprOk.calls (k : Nat) (A0_0 : Option Addr) (c0_0 : Nat) (l0_0 : List (S147)) (r : Bool) (w : World) (hr0_0 : Kd.C k147 w A0_0 l0_0.length l0_0) (hc0_0 : l0_0.length ≤ c0_0) (h : impl_ExprOk.f k l0_0 = some r) :
  Calls Tryz.prog 101 #[.agg #[.slice A0_0 l0_0.length c0_0]] w fun e w' => e = .returned (.bool r) ∧ Below w.heap.size w w':=by
 have hu123:=Tryz.underlying123
 have hu147:=Tryz.underlying147
 have HR0_0:=zm_ hr0_0
 have HC0_0:=zm_ hc0_0
 clear hr0_0 hc0_0
 have HB:=zm_ (Below.refl w.heap.size w)
 have H : (impl_ExprOk.l0 k l0_0 (l0_0.length : Int) 0 l0_0) = some r:=h
 clear h
 have H':=zm_ H
 clear H
 go_enter Tryz.func101,Tryz.ntmps101
 go_wp2_with (first|((with_reducible refine gate_dst (N:=1) rfl ?_);refine box_event ?hg (N:=1) ?hd (cs:=#[.slice A0_0 l0_0.length c0_0]) (t:=123) ?hr ?_;(case hd => rfl);(case hg => rfl);(case hr => first|(go_simp;done)|(go_simp;rfl));intro gb391 hg w2 hbox hb;have n0_:=zm_ (below_step zB_ hb);have n1_:=zm_ (hbox);have n2_:=zm_ ((by rw [hg];exact (below_size zB_) : w.heap.size ≤ gb391));have n3_:=zm_ ((by rw [hg];exact (below_size zB_) : w.heap.size ≤ gb391));clear HB;have HB:=n0_;have BK391:=n1_;have GW391:=n2_;have GE391:=n3_;clear n0_ n1_ n2_ n3_;clear hb hbox hg;have hcz3_0 : w2.cell? ⟨gb391,0,none⟩ = some (.slice A0_0 l0_0.length c0_0):=(zc_ BK391.out 0).trans rfl;have hfz3_0:=zf_ BK391.out 0))
 go_loopg [8] k (fun kq v8 w' => ∃ (x8_1 : Int),v8 = .int .i64 x8_1 ∧ Aside0 (impl_ExprOk.l0 kq l0_0 (l0_0.length : Int) x8_1 l0_0 = some r) ∧ Aside0 (kq ≤ k) ∧ Aside0 (w'.heap[gb391]? = some (.cells #[(.slice A0_0 l0_0.length c0_0)] 123 (0,0))) ∧ Aside0 (Below w.heap.size w w'))
 case atStart => exact ⟨(0),zV_,H',⟨Nat.le_refl _⟩,⟨zK_⟩,⟨zG_⟩⟩
 case round =>
  clear H'
  obtain ⟨x8_1,rfl,HA,HK1,BK391,HB⟩:=hrel
  cases gk with
  |zero => exact absurd HA.out (by simp [impl_ExprOk.l0])
  |succ k1 =>
   have H:=HA.out
   clear HA
   simp only [impl_ExprOk.l0] at H
   by_cases c4 : x8_1 < (l0_0.length : Int)
   rotate_left
   ·rw [if_neg c4] at H
    have c4b0:=decide_eq_false c4
    clear c4
    obtain ⟨t395,A17,H⟩:=zJ_ H
    try dsimp only at H
    obtain rfl:=zi_ H
    have hcz18_0 : wr.cell? ⟨gb391,0,none⟩ = some (.slice A0_0 l0_0.length c0_0):=(zc_ BK391.out 0).trans rfl
    have hfz18_0:=zf_ BK391.out 0
    go_wp2_with (first|((with_reducible refine gate_callee (f:=20) rfl ?_);refine goesL_ (some 21) rfl rfl Tryz.func20 (by kernel_rfl) rfl #[.int .i64 (l0_0.length : Int),.int .i64 1,.int .i64 20] rfl zq_ ?_;(with_reducible refine (impl_within.calls (l0_0.length : Int) 1 20 t395 _ A17.out).mono ?_);rintro e w' ⟨rfl,⟨nd,rfl⟩⟩;refine ⟨_,rfl,?_⟩))
    go_ret
    exact ⟨zE_,zG_⟩



   rw [if_pos c4] at H
   have c4b0:=decide_eq_true c4
   clear c4
   by_cases c5 : 0 ≤ x8_1
   rotate_left
   ·rw [if_neg c5] at H
    cases H
   rw [if_pos c5] at H
   have c5b0:=decide_eq_true c5
   clear c5
   by_cases c6 : x8_1 < (l0_0.length : Int)
   rotate_left
   ·rw [if_neg c6] at H
    cases H
   rw [if_pos c6] at H
   have c6b0:=decide_eq_true c6
   clear c6
   obtain ⟨t394,A7,H⟩:=zJ_ H
   try dsimp only at H
   by_cases c8 : t394 = true
   rotate_left
   ·replace c8:=Bool.eq_false_iff.mpr c8
    subst c8
    rw [zF_] at H
    obtain rfl:=zi_ H
    have p392 : 0 ≤ (x8_1 : Int):=zo_
    have q392 : x8_1 < (l0_0.length : Int):=zo_
    obtain ⟨ad392,A392_3,c392_3,e392,hx392_0,hx392_1,hx392_2,hx392_3,hl392_3,hi392_3⟩:=at_T147 HR0_0.out x8_1 p392 q392
    cases e392
    replace hx392_0:=(HB.out.cell (zb_ w _ hx392_0)).trans hx392_0
    replace hx392_1:=(HB.out.cell (zb_ w _ hx392_1)).trans hx392_1
    replace hx392_2:=(HB.out.cell (zb_ w _ hx392_2)).trans hx392_2
    replace hx392_3:=(HB.out.cell (zb_ w _ hx392_3)).trans hx392_3
    have HR392_3:=zm_ hi392_3
    have HC392_3:=zm_ hl392_3
    clear hi392_3 hl392_3
    replace p392:=eq_true p392
    replace q392:=eq_true q392
    go_wp2_with (first|((with_reducible refine gate_dst (N:=4) rfl ?_);refine box_event ?hg (N:=4) ?hd (cs:=#[.int .i64 0,.int .i64 0,.string (⟨#[]⟩ : ByteArray),.slice none 0 0]) (t:=147) ?hr ?_;(case hd => rfl);(case hg => rfl);(case hr => first|(go_simp;done)|(go_simp;rfl));intro gb393 hg w13 hbox hb;have n0_:=zm_ (blk_below (g:=gb391) (o:=.cells #[.slice (some ad392) l0_0.length c0_0] 123 (0,0)) zK_ hb);have n1_:=zm_ (below_step zG_ hb);have n2_:=zm_ (hbox);have n3_:=zm_ ((by rw [hg];exact (below_size zG_) : w.heap.size ≤ gb393));have n4_:=zm_ ((by rw [hg];exact (below_size zG_) : w.heap.size ≤ gb393));have n5_:=zm_ ((by rw [hg];exact Nat.ne_of_lt (blk_lt (g:=gb391) (o:=.cells #[.slice (some ad392) l0_0.length c0_0] 123 (0,0)) zK_) : gb391 ≠ gb393));have n6_:=zm_ ((by rw [hg];exact Nat.ne_of_gt (blk_lt (g:=gb391) (o:=.cells #[.slice (some ad392) l0_0.length c0_0] 123 (0,0)) zK_) : gb393 ≠ gb391));clear BK391;clear HB;have BK391:=n0_;have HB:=n1_;have BK393:=n2_;have GW393:=n3_;have GE393:=n4_;have NB391_393:=n5_;have NB393_391:=n6_;clear n0_ n1_ n2_ n3_ n4_ n5_ n6_;clear hb hbox hg;have hnb14:=NB393_391.out;have hnc14:=NB391_393.out;have hcz15_0 : w13.cell? ⟨gb393,0,none⟩ = some (.int .i64 0):=(zc_ BK393.out 0).trans rfl;have hcz15_1 : w13.cell? ⟨gb393,1,none⟩ = some (.int .i64 0):=(zc_ BK393.out 1).trans rfl;have hcz15_2 : w13.cell? ⟨gb393,2,none⟩ = some (.string (⟨#[]⟩ : ByteArray)):=(zc_ BK393.out 2).trans rfl;have hcz15_3 : w13.cell? ⟨gb393,3,none⟩ = some (.slice none 0 0):=(zc_ BK393.out 3).trans rfl;have hfz15_0:=zf_ BK393.out 0;have hfz15_1:=zf_ BK393.out 1;have hfz15_2:=zf_ BK393.out 2;have hfz15_3:=zf_ BK393.out 3)|((with_reducible refine gate_callee (f:=126) rfl ?_);refine goesL_ (some 15) rfl rfl Tryz.func126 (by kernel_rfl) rfl #[.agg #[.int .i64 ((rd_T147 l0_0 x8_1).f0),.int .i64 ((rd_T147 l0_0 x8_1).f1),.string ((rd_T147 l0_0 x8_1).f2),.slice A392_3 ((rd_T147 l0_0 x8_1).f3).length c392_3],.int .i64 x8_1] rfl zq_ ?_;(with_reducible refine (impl_exNodeOk.calls k1 ((rd_T147 l0_0 x8_1).f0) ((rd_T147 l0_0 x8_1).f1) ((rd_T147 l0_0 x8_1).f2) _ _ ((rd_T147 l0_0 x8_1).f3) x8_1 false _ ?side1 ?side2 A7.out).mono ?_);(case side1 => exact Kd.C_below HR392_3.out zG_);(case side2 => exact HC392_3.out);rintro e w16 ⟨rfl,hb⟩;refine ⟨_,rfl,?_⟩;have n0_:=zm_ (blk_below (g:=gb391) (o:=.cells #[.slice (some ad392) l0_0.length c0_0] 123 (0,0)) zt15_3 hb);have n1_:=zm_ (blk_below (g:=gb393) (o:=.cells #[.int .i64 ((rd_T147 l0_0 x8_1).f0),.int .i64 ((rd_T147 l0_0 x8_1).f1),.string ((rd_T147 l0_0 x8_1).f2),.slice A392_3 ((rd_T147 l0_0 x8_1).f3).length c392_3] 147 (0,0)) zt15_1 hb);have n2_:=zm_ (below_step zG_ hb);clear BK391;clear BK393;clear HB;have BK391:=n0_;have BK393:=n1_;have HB:=n2_;clear n0_ n1_ n2_;(try clear hb)))
    go_ret
    exact ⟨zE_,zG_⟩
   subst c8
   rw [if_pos rfl] at H
   have H':=zm_ H
   clear H
   have p392 : 0 ≤ (x8_1 : Int):=zo_
   have q392 : x8_1 < (l0_0.length : Int):=zo_
   obtain ⟨ad392,A392_3,c392_3,e392,hx392_0,hx392_1,hx392_2,hx392_3,hl392_3,hi392_3⟩:=at_T147 HR0_0.out x8_1 p392 q392
   cases e392
   replace hx392_0:=(HB.out.cell (zb_ w _ hx392_0)).trans hx392_0
   replace hx392_1:=(HB.out.cell (zb_ w _ hx392_1)).trans hx392_1
   replace hx392_2:=(HB.out.cell (zb_ w _ hx392_2)).trans hx392_2
   replace hx392_3:=(HB.out.cell (zb_ w _ hx392_3)).trans hx392_3
   have HR392_3:=zm_ hi392_3
   have HC392_3:=zm_ hl392_3
   clear hi392_3 hl392_3
   replace p392:=eq_true p392
   replace q392:=eq_true q392
   go_wp2_with (first|((with_reducible refine gate_dst (N:=4) rfl ?_);refine box_event ?hg (N:=4) ?hd (cs:=#[.int .i64 0,.int .i64 0,.string (⟨#[]⟩ : ByteArray),.slice none 0 0]) (t:=147) ?hr ?_;(case hd => rfl);(case hg => rfl);(case hr => first|(go_simp;done)|(go_simp;rfl));intro gb393 hg w9 hbox hb;have n0_:=zm_ (blk_below (g:=gb391) (o:=.cells #[.slice (some ad392) l0_0.length c0_0] 123 (0,0)) zK_ hb);have n1_:=zm_ (below_step zG_ hb);have n2_:=zm_ (hbox);have n3_:=zm_ ((by rw [hg];exact (below_size zG_) : w.heap.size ≤ gb393));have n4_:=zm_ ((by rw [hg];exact (below_size zG_) : w.heap.size ≤ gb393));have n5_:=zm_ ((by rw [hg];exact Nat.ne_of_lt (blk_lt (g:=gb391) (o:=.cells #[.slice (some ad392) l0_0.length c0_0] 123 (0,0)) zK_) : gb391 ≠ gb393));have n6_:=zm_ ((by rw [hg];exact Nat.ne_of_gt (blk_lt (g:=gb391) (o:=.cells #[.slice (some ad392) l0_0.length c0_0] 123 (0,0)) zK_) : gb393 ≠ gb391));clear BK391;clear HB;have BK391:=n0_;have HB:=n1_;have BK393:=n2_;have GW393:=n3_;have GE393:=n4_;have NB391_393:=n5_;have NB393_391:=n6_;clear n0_ n1_ n2_ n3_ n4_ n5_ n6_;clear hb hbox hg;have hnb10:=NB393_391.out;have hnc10:=NB391_393.out;have hcz11_0 : w9.cell? ⟨gb393,0,none⟩ = some (.int .i64 0):=(zc_ BK393.out 0).trans rfl;have hcz11_1 : w9.cell? ⟨gb393,1,none⟩ = some (.int .i64 0):=(zc_ BK393.out 1).trans rfl;have hcz11_2 : w9.cell? ⟨gb393,2,none⟩ = some (.string (⟨#[]⟩ : ByteArray)):=(zc_ BK393.out 2).trans rfl;have hcz11_3 : w9.cell? ⟨gb393,3,none⟩ = some (.slice none 0 0):=(zc_ BK393.out 3).trans rfl;have hfz11_0:=zf_ BK393.out 0;have hfz11_1:=zf_ BK393.out 1;have hfz11_2:=zf_ BK393.out 2;have hfz11_3:=zf_ BK393.out 3)|((with_reducible refine gate_callee (f:=126) rfl ?_);refine goesL_ (some 15) rfl rfl Tryz.func126 (by kernel_rfl) rfl #[.agg #[.int .i64 ((rd_T147 l0_0 x8_1).f0),.int .i64 ((rd_T147 l0_0 x8_1).f1),.string ((rd_T147 l0_0 x8_1).f2),.slice A392_3 ((rd_T147 l0_0 x8_1).f3).length c392_3],.int .i64 x8_1] rfl zq_ ?_;(with_reducible refine (impl_exNodeOk.calls k1 ((rd_T147 l0_0 x8_1).f0) ((rd_T147 l0_0 x8_1).f1) ((rd_T147 l0_0 x8_1).f2) _ _ ((rd_T147 l0_0 x8_1).f3) x8_1 true _ ?side1 ?side2 A7.out).mono ?_);(case side1 => exact Kd.C_below HR392_3.out zG_);(case side2 => exact HC392_3.out);rintro e w12 ⟨rfl,hb⟩;refine ⟨_,rfl,?_⟩;have n0_:=zm_ (blk_below (g:=gb391) (o:=.cells #[.slice (some ad392) l0_0.length c0_0] 123 (0,0)) zt15_3 hb);have n1_:=zm_ (blk_below (g:=gb393) (o:=.cells #[.int .i64 ((rd_T147 l0_0 x8_1).f0),.int .i64 ((rd_T147 l0_0 x8_1).f1),.string ((rd_T147 l0_0 x8_1).f2),.slice A392_3 ((rd_T147 l0_0 x8_1).f3).length c392_3] 147 (0,0)) zt15_1 hb);have n2_:=zm_ (below_step zG_ hb);clear BK391;clear BK393;clear HB;have BK391:=n0_;have BK393:=n1_;have HB:=n2_;clear n0_ n1_ n2_;(try clear hb)))
   go_roundg k1
   case measure => have:=HK1.out;omega
   case rel => exact ⟨(wrap64 (x8_1 + 1)),zV_,H',⟨by have:=HK1.out;omega⟩,⟨zK_⟩,⟨zG_⟩⟩
def slices_Sort_string_string.f (l0 : List ByteArray) : Option (List ByteArray):=if l0.length < 4611686018427387904 then some (SSrt.ssort l0) else none
theorem slices_Sort_string_string.calls (P0_ : Nat → Prop) (u9000_ : Value) (l0 : List ByteArray) (r : List ByteArray) (w0 w : World) (hB : Below w0.heap.size w0 w) (ho0 : Kd.R Kd.string 9 w w0.heap.size P0_ u9000_ l0) (h : slices_Sort_string_string.f l0 = some r) :
  Calls Tryz.prog 123 #[u9000_] w fun e w' => e = .returned (.tuple #[]) ∧ Kd.R Kd.string 9 w' w0.heap.size (fun k_ => (P0_ k_ ∨ w.heap.size ≤ k_)) u9000_ r ∧ Below w0.heap.size w0 w' ∧ Kept w w' (fun k_ => P0_ k_):=by
 unfold slices_Sort_string_string.f at h
 by_cases hl : l0.length < 4611686018427387904
 rotate_left
 ·rw [if_neg hl] at h
  cases h



 rw [if_pos hl] at h
 obtain rfl:=Option.some.inj h
 exact SSrt.sort_own P0_ u9000_ l0 w0 w hB ho0 hl
def slices_Compact_string_string.f (l0 : List ByteArray) : Option (List ByteArray):=if l0.length < 4611686018427387904 then some (SSrt.scomp l0) else none
theorem slices_Compact_string_string.calls (P0_ : Nat → Prop) (u9000_ : Value) (l0 : List ByteArray) (r : List ByteArray) (w0 w : World) (hB : Below w0.heap.size w0 w) (ho0 : Kd.R Kd.string 9 w w0.heap.size P0_ u9000_ l0) (h : slices_Compact_string_string.f l0 = some r) :
  Calls Tryz.prog 124 #[u9000_] w fun e w' => ∃ v0_ : Value,e = .returned (v0_) ∧ Kd.R Kd.string 9 w' w0.heap.size (fun k_ => (P0_ k_ ∨ w.heap.size ≤ k_)) v0_ r ∧ Below w0.heap.size w0 w' ∧ Kept w w' (fun k_ => P0_ k_):=by
 unfold slices_Compact_string_string.f at h
 by_cases hl : l0.length < 4611686018427387904
 rotate_left
 ·rw [if_neg hl] at h
  cases h


 rw [if_pos hl] at h
 obtain rfl:=Option.some.inj h
 exact SSrt.compact_own P0_ u9000_ l0 w0 w hB ho0 hl
end Go.Proofs.YtkbgmojomgelbaaGreat.MFnExactGrammarOk
