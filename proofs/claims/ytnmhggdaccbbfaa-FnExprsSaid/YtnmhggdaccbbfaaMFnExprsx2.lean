import Derived.Test.YtnmhggdaccbbfaaMFnExprsx0
import Derived.Test.YtnmhggdaccbbfaaMFnExprsx1
namespace Go.Proofs.Ytnmhggdaccbbfaa.MFnExprs
open Go.RowKit Go.Proofs.YtnmhggdaccbbfaaW.PrintWords Go.Proofs.YtnmhggdaccbbfaaW.PrintLast Go.Proofs.YtnmhggdaccbbfaaW.PrintMore
attribute [local go_sem] max2_int min2_int max_two min_two max_three min_three max_four min_four
set_option linter.unusedVariables false
set_option linter.unusedSimpArgs false
theorem zt2_6 {p : Prop} (h : p := by repeat (first|(with_reducible first|exact HB.out|apply za_|apply zn_|apply zd_|refine zs_ ?_ GE143.out)|exact HB.out)) : p := h
theorem zt2_5 {p : Prop} (h : p := by repeat (first|(with_reducible first|exact HB.out|apply za_|apply zn_|apply zd_|refine zs_ ?_ GE153.out|refine zs_ ?_ GE155.out)|exact HB.out)) : p := h
theorem zt2_4 {p : Prop} (h : p := by (with_reducible repeat first|refine zl_ ?_ _|refine zr_ ?_|refine zk_ ?_ _);exact BK153.out) : p := h
theorem zt2_3 {p : Prop} (h : p := by (with_reducible repeat first|refine zl_ ?_ _|refine zr_ ?_|refine zk_ ?_ _);refine blk_far ?_ NB153_155.out _;(with_reducible repeat first|refine zl_ ?_ _|refine zr_ ?_|refine zk_ ?_ _);refine blk_far ?_ NB153_155.out _;(with_reducible repeat first|refine zl_ ?_ _|refine zr_ ?_|refine zk_ ?_ _);refine blk_far ?_ NB153_155.out _;(with_reducible repeat first|refine zl_ ?_ _|refine zr_ ?_|refine zk_ ?_ _);refine blk_far ?_ NB153_155.out _;(with_reducible repeat first|refine zl_ ?_ _|refine zr_ ?_|refine zk_ ?_ _);exact BK153.out) : p := h
theorem zt2_2 {p : Prop} (h : p := by repeat (first|(with_reducible first|exact HB.out|apply za_|apply zn_|apply zd_|refine zs_ ?_ GE153.out)|exact HB.out)) : p := h
theorem zt2_1 {p : Prop} (h : p := by (with_reducible repeat first|refine zl_ ?_ _|refine zr_ ?_|refine zk_ ?_ _);refine blk_put (cs:=#[.int .i64 ((rd_T34 l0_0 x8_1).f0),.int .i64 ((rd_T34 l0_0 x8_1).f1),.string ((rd_T34 l0_0 x8_1).f2),.slice none 0 0]) ?_ 3 _ rfl;(with_reducible repeat first|refine zl_ ?_ _|refine zr_ ?_|refine zk_ ?_ _);refine blk_put (cs:=#[.int .i64 ((rd_T34 l0_0 x8_1).f0),.int .i64 ((rd_T34 l0_0 x8_1).f1),.string (⟨#[]⟩ : ByteArray),.slice none 0 0]) ?_ 2 _ rfl;(with_reducible repeat first|refine zl_ ?_ _|refine zr_ ?_|refine zk_ ?_ _);refine blk_put (cs:=#[.int .i64 ((rd_T34 l0_0 x8_1).f0),.int .i64 0,.string (⟨#[]⟩ : ByteArray),.slice none 0 0]) ?_ 1 _ rfl;(with_reducible repeat first|refine zl_ ?_ _|refine zr_ ?_|refine zk_ ?_ _);refine blk_put (cs:=#[.int .i64 0,.int .i64 0,.string (⟨#[]⟩ : ByteArray),.slice none 0 0]) ?_ 0 _ rfl;(with_reducible repeat first|refine zl_ ?_ _|refine zr_ ?_|refine zk_ ?_ _);exact BK155.out) : p := h

def impl_exNodeOk.j0 : Nat → Bool → Int → Int → ByteArray → List Int → Option (Bool)
 |0,_,_,_,_,_ => none
 |k + 1,x20,x144000,x144001,x144002,x144003 => if x20 = true then (some false) else (if x144001 = 0 then (if x144002.toList = ([] : List UInt8) then (if x144000 = 2 then ((impl_VarName.f k x144002).bind fun t146 => (some t146)) else (some true)) else (if x144000 = 2 then ((impl_VarName.f k x144002).bind fun t147 => (some t147)) else (some false))) else (if x144000 = 1 then ((impl_within.f x144001 0 99).bind fun t148 => (if x144002.toList = ([] : List UInt8) then (if x144000 = 2 then ((impl_VarName.f k x144002).bind fun t149 => (if t148 = true then (some t149) else (some false))) else (if t148 = true then (some true) else (some false))) else (if x144000 = 2 then ((impl_VarName.f k x144002).bind fun t150 => (if t148 = true then (some t150) else (some false))) else (if t148 = true then (some false) else (some false))))) else (if x144002.toList = ([] : List UInt8) then (if x144000 = 2 then ((impl_VarName.f k x144002).bind fun t151 => (some false)) else (some false)) else (if x144000 = 2 then ((impl_VarName.f k x144002).bind fun t152 => (some false)) else (some false)))))
def impl_exNodeOk.f (k : Nat) (a0_0 : Int) (a0_1 : Int) (a0_2 : ByteArray) (l0_3 : List Int) (a1 : Int) : Option (Bool):=(impl_kidCount.f a0_0).bind fun t144 => (if (l0_3.length : Int) = t144 then ((impl_kidsAhead.f k l0_3 a1).bind fun t145 => (impl_exNodeOk.j0 k (!t145) a0_0 a0_1 a0_2 l0_3)) else (impl_exNodeOk.j0 k true a0_0 a0_1 a0_2 l0_3))
theorem impl_exNodeOk.mono_l : ∀ k,(∀ y0 y1 y2 y3 y4,LeO (impl_exNodeOk.j0 k y0 y1 y2 y3 y4) (impl_exNodeOk.j0 (k + 1) y0 y1 y2 y3 y4))
 |0 => fun _ _ _ _ _ r h => by simp [impl_exNodeOk.j0] at h
 |k + 1 => by
  have ih0:=impl_exNodeOk.mono_l k
  ·intro y0 y1 y2 y3 y4
   unfold impl_exNodeOk.j0
   repeat' first
   |(with_reducible exact ih0 _ _ _ _ _)
   |(with_reducible exact impl_VarName.mono _ _)
   |(with_reducible exact impl_kidsAhead.mono _ _ _)
   |(with_reducible exact LeO.refl _)
   |(with_reducible exact LeO.none _)
   |(with_reducible refine LeO.ite ?_ ?_)
   |(with_reducible refine LeO.bind ?_ (fun _ => ?_))
theorem impl_exNodeOk.mono : ∀ a0 a1 a2 a3 a4 k,LeO (impl_exNodeOk.f k a0 a1 a2 a3 a4) (impl_exNodeOk.f (k + 1) a0 a1 a2 a3 a4):=by
 intro a0 a1 a2 a3 a4 k
 have ih0:=impl_exNodeOk.mono_l k
 unfold impl_exNodeOk.f
 repeat' first
   |(with_reducible exact ih0 _ _ _ _ _)
   |(with_reducible exact impl_VarName.mono _ _)
   |(with_reducible exact impl_kidsAhead.mono _ _ _)
   |(with_reducible exact LeO.refl _)
   |(with_reducible exact LeO.none _)
   |(with_reducible refine LeO.ite ?_ ?_)
   |(with_reducible refine LeO.bind ?_ (fun _ => ?_))
set_option maxHeartbeats 8000000 in
set_option maxRecDepth 100000 in
theorem impl_exNodeOk.calls (k : Nat) (a0_0 : Int) (a0_1 : Int) (a0_2 : ByteArray) (A0_3 : Option Addr) (c0_3 : Nat) (l0_3 : List Int) (a1 : Int) (r : Bool) (w : World) (hr0_3 : Kd.C (Kd.int .i64) w A0_3 l0_3.length l0_3) (hc0_3 : l0_3.length ≤ c0_3) (h : impl_exNodeOk.f k a0_0 a0_1 a0_2 l0_3 a1 = some r) :
  Calls Try.prog 48 #[.agg #[.int .i64 a0_0,.int .i64 a0_1,.string a0_2,.slice A0_3 l0_3.length c0_3],.int .i64 a1] w fun e w' => e = .returned (.bool r) ∧ Below w.heap.size w w':=by
 have hu34:=Try.underlying34
 have HR0_3:=zm_ hr0_3
 have HC0_3:=zm_ hc0_3
 clear hr0_3 hc0_3
 have HB:=zm_ (Below.refl w.heap.size w)
 have H : ((impl_kidCount.f a0_0).bind fun t144 => (if (l0_3.length : Int) = t144 then ((impl_kidsAhead.f k l0_3 a1).bind fun t145 => (impl_exNodeOk.j0 k (!t145) a0_0 a0_1 a0_2 l0_3)) else (impl_exNodeOk.j0 k true a0_0 a0_1 a0_2 l0_3))) = some r:=h
 clear h
 have HC3:=zm_ H
 clear H
 go_enter Try.func48,Try.ntmps48
 go_upto_region 1 with (first|((with_reducible refine gate_dst (N:=2) rfl ?_);refine box_event ?hg (N:=2) ?hd (cs:=#[.int .i64 a0_0,.int .i64 a0_1,.string a0_2,.slice A0_3 l0_3.length c0_3]) (t:=34) ?hr ?_;(case hd => rfl);(case hg => rfl);(case hr => first|(go_simp;done)|(go_simp;rfl));intro gb143 hg w4 hbox hb;have n0_:=zm_ (below_step zB_ hb);have n1_:=zm_ (hbox);have n2_:=zm_ ((by rw [hg];exact (below_size zB_) : w.heap.size ≤ gb143));have n3_:=zm_ ((by rw [hg];exact (below_size zB_) : w.heap.size ≤ gb143));clear HB;have HB:=n0_;have BK143:=n1_;have GW143:=n2_;have GE143:=n3_;clear n0_ n1_ n2_ n3_;clear hb hbox hg))
 repeat (go_quiet (first|((with_reducible refine gate_dst (N:=2) rfl ?_);refine box_event ?hg (N:=2) ?hd (cs:=#[.int .i64 a0_0,.int .i64 a0_1,.string a0_2,.slice A0_3 l0_3.length c0_3]) (t:=34) ?hr ?_;(case hd => rfl);(case hg => rfl);(case hr => first|(go_simp;done)|(go_simp;rfl));intro gb143 hg w4 hbox hb;have n0_:=zm_ (below_step zB_ hb);have n1_:=zm_ (hbox);have n2_:=zm_ ((by rw [hg];exact (below_size zB_) : w.heap.size ≤ gb143));have n3_:=zm_ ((by rw [hg];exact (below_size zB_) : w.heap.size ≤ gb143));clear HB;have HB:=n0_;have BK143:=n1_;have GW143:=n2_;have GE143:=n3_;clear n0_ n1_ n2_ n3_;clear hb hbox hg));go_upto_region 1 with (first|((with_reducible refine gate_dst (N:=2) rfl ?_);refine box_event ?hg (N:=2) ?hd (cs:=#[.int .i64 a0_0,.int .i64 a0_1,.string a0_2,.slice A0_3 l0_3.length c0_3]) (t:=34) ?hr ?_;(case hd => rfl);(case hg => rfl);(case hr => first|(go_simp;done)|(go_simp;rfl));intro gb143 hg w4 hbox hb;have n0_:=zm_ (below_step zB_ hb);have n1_:=zm_ (hbox);have n2_:=zm_ ((by rw [hg];exact (below_size zB_) : w.heap.size ≤ gb143));have n3_:=zm_ ((by rw [hg];exact (below_size zB_) : w.heap.size ≤ gb143));clear HB;have HB:=n0_;have BK143:=n1_;have GW143:=n2_;have GE143:=n3_;clear n0_ n1_ n2_ n3_;clear hb hbox hg)))
 (try simp only [Act.put,List.setIfInBounds_toArray,List.set_cons_zero,List.set_cons_succ])
 go_cut [20] (fun v20 wc => ∃ (kq : Nat) (x20_2 : Bool),v20 = .bool x20_2 ∧ Aside0 (impl_exNodeOk.j0 kq x20_2 a0_0 a0_1 a0_2 l0_3 = some r) ∧ Aside0 (kq ≤ k) ∧ Aside0 (wc.heap[gb143]? = some (.cells #[.int .i64 a0_0,.int .i64 a0_1,.string a0_2,(.slice A0_3 l0_3.length c0_3)] 34 (0,0))) ∧ Aside0 (Below w.heap.size w wc))
 case first =>
  have H:=HC3.out
  clear HC3
  replace H:=Option.bind_eq_some_iff.mp H
  obtain ⟨t144,A50,H⟩:=H
  replace H : (if (l0_3.length : Int) = t144 then ((impl_kidsAhead.f k l0_3 a1).bind fun t145 => (impl_exNodeOk.j0 k (!t145) a0_0 a0_1 a0_2 l0_3)) else (impl_exNodeOk.j0 k true a0_0 a0_1 a0_2 l0_3)) = some r:=H
  have A5:=zm_ A50
  clear A50
  by_cases c6 : (l0_3.length : Int) = t144
  ·rw [if_pos c6] at H
   have c6b0 : ((l0_3.length : Int) == t144) = true:=beq_iff_eq.mpr c6
   have c6b1 : ((l0_3.length : Int) != t144) = false:=bne_eq_false_iff_eq.mpr c6
   clear c6
   (first|rw [c6b0]|(simp only [i64_w,i32_w];rw [c6b0])|skip)
   replace H:=Option.bind_eq_some_iff.mp H
   obtain ⟨t145,A70,H⟩:=H
   replace H : (impl_exNodeOk.j0 k (!t145) a0_0 a0_1 a0_2 l0_3) = some r:=H
   have A7:=zm_ A70
   clear A70
   have H':=zm_ H
   clear H
   have hcz8_0 : w4.cell? ⟨gb143,0,none⟩ = some (.int .i64 a0_0):=(zc_ BK143.out 0).trans rfl
   have hcz8_1 : w4.cell? ⟨gb143,1,none⟩ = some (.int .i64 a0_1):=(zc_ BK143.out 1).trans rfl
   have hcz8_2 : w4.cell? ⟨gb143,2,none⟩ = some (.string a0_2):=(zc_ BK143.out 2).trans rfl
   have hcz8_3 : w4.cell? ⟨gb143,3,none⟩ = some (.slice A0_3 l0_3.length c0_3):=(zc_ BK143.out 3).trans rfl
   have hfz8_0:=zf_ BK143.out 0
   have hfz8_1:=zf_ BK143.out 1
   have hfz8_2:=zf_ BK143.out 2
   have hfz8_3:=zf_ BK143.out 3
   go_wp2_with (first|(go_at_call 79;(with_reducible refine (impl_kidCount.calls a0_0 t144 _ A5.out).mono ?_);rintro e w' ⟨rfl,⟨nd,rfl⟩⟩;(try first|exact ⟨rfl,_,zw_ _ _ _⟩|exact ⟨rfl,_,Eq.trans (zw_ _ _ _) (congrArg (World.drewN _) (Nat.add_assoc _ _ _))⟩))|(go_at_call 80;(with_reducible refine (impl_kidsAhead.calls k _ _ l0_3 a1 t145 _ ?side1 ?side2 A7.out).mono ?_);(case side1 => repeat (first|exact (Kd.C_below HR0_3.out zt2_6)|(with_reducible refine Kd.C_alloc ?_ _)|(with_reducible refine Kd.C_drewN ?_ _)|(with_reducible refine Kd.C_drew ?_)));(case side2 => exact HC0_3.out);rintro e w' ⟨rfl,⟨nd,rfl⟩⟩;(try first|exact ⟨rfl,_,zw_ _ _ _⟩|exact ⟨rfl,_,Eq.trans (zw_ _ _ _) (congrArg (World.drewN _) (Nat.add_assoc _ _ _))⟩)))
   repeat (go_quiet (first|(go_at_call 79;(with_reducible refine (impl_kidCount.calls a0_0 t144 _ A5.out).mono ?_);rintro e w' ⟨rfl,⟨nd,rfl⟩⟩;(try first|exact ⟨rfl,_,zw_ _ _ _⟩|exact ⟨rfl,_,Eq.trans (zw_ _ _ _) (congrArg (World.drewN _) (Nat.add_assoc _ _ _))⟩))|(go_at_call 80;(with_reducible refine (impl_kidsAhead.calls k _ _ l0_3 a1 t145 _ ?side1 ?side2 A7.out).mono ?_);(case side1 => repeat (first|exact (Kd.C_below HR0_3.out zt2_6)|(with_reducible refine Kd.C_alloc ?_ _)|(with_reducible refine Kd.C_drewN ?_ _)|(with_reducible refine Kd.C_drew ?_)));(case side2 => exact HC0_3.out);rintro e w' ⟨rfl,⟨nd,rfl⟩⟩;(try first|exact ⟨rfl,_,zw_ _ _ _⟩|exact ⟨rfl,_,Eq.trans (zw_ _ _ _) (congrArg (World.drewN _) (Nat.add_assoc _ _ _))⟩)));try go_wp2_with (first|(go_at_call 79;(with_reducible refine (impl_kidCount.calls a0_0 t144 _ A5.out).mono ?_);rintro e w' ⟨rfl,⟨nd,rfl⟩⟩;(try first|exact ⟨rfl,_,zw_ _ _ _⟩|exact ⟨rfl,_,Eq.trans (zw_ _ _ _) (congrArg (World.drewN _) (Nat.add_assoc _ _ _))⟩))|(go_at_call 80;(with_reducible refine (impl_kidsAhead.calls k _ _ l0_3 a1 t145 _ ?side1 ?side2 A7.out).mono ?_);(case side1 => repeat (first|exact (Kd.C_below HR0_3.out zt2_6)|(with_reducible refine Kd.C_alloc ?_ _)|(with_reducible refine Kd.C_drewN ?_ _)|(with_reducible refine Kd.C_drew ?_)));(case side2 => exact HC0_3.out);rintro e w' ⟨rfl,⟨nd,rfl⟩⟩;(try first|exact ⟨rfl,_,zw_ _ _ _⟩|exact ⟨rfl,_,Eq.trans (zw_ _ _ _) (congrArg (World.drewN _) (Nat.add_assoc _ _ _))⟩))))
   go_meet
   case rel => exact ⟨_,(!t145),zV_,H',⟨by first|omega|exact Nat.le_refl _⟩,⟨by (with_reducible repeat first|refine zl_ ?_ _|refine zr_ ?_|refine zk_ ?_ _);exact BK143.out⟩,⟨by repeat (first|(with_reducible first|exact HB.out|apply za_|apply zn_|apply zd_|refine zs_ ?_ GE143.out)|exact HB.out)⟩⟩
  ·rw [if_neg c6] at H
   have c6b0 : ((l0_3.length : Int) == t144) = false:=beq_eq_false_iff_ne.mpr c6
   have c6b1 : ((l0_3.length : Int) != t144) = true:=bne_iff_ne.mpr c6
   (first|rw [c6b0]|(simp only [i64_w,i32_w];rw [c6b0])|skip)
   have H':=zm_ H
   clear H
   have hcz9_0 : w4.cell? ⟨gb143,0,none⟩ = some (.int .i64 a0_0):=(zc_ BK143.out 0).trans rfl
   have hcz9_1 : w4.cell? ⟨gb143,1,none⟩ = some (.int .i64 a0_1):=(zc_ BK143.out 1).trans rfl
   have hcz9_2 : w4.cell? ⟨gb143,2,none⟩ = some (.string a0_2):=(zc_ BK143.out 2).trans rfl
   have hcz9_3 : w4.cell? ⟨gb143,3,none⟩ = some (.slice A0_3 l0_3.length c0_3):=(zc_ BK143.out 3).trans rfl
   have hfz9_0:=zf_ BK143.out 0
   have hfz9_1:=zf_ BK143.out 1
   have hfz9_2:=zf_ BK143.out 2
   have hfz9_3:=zf_ BK143.out 3
   go_wp2_with (first|(go_at_call 79;(with_reducible refine (impl_kidCount.calls a0_0 t144 _ A5.out).mono ?_);rintro e w' ⟨rfl,⟨nd,rfl⟩⟩;(try first|exact ⟨rfl,_,zw_ _ _ _⟩|exact ⟨rfl,_,Eq.trans (zw_ _ _ _) (congrArg (World.drewN _) (Nat.add_assoc _ _ _))⟩)))
   repeat (go_quiet (first|(go_at_call 79;(with_reducible refine (impl_kidCount.calls a0_0 t144 _ A5.out).mono ?_);rintro e w' ⟨rfl,⟨nd,rfl⟩⟩;(try first|exact ⟨rfl,_,zw_ _ _ _⟩|exact ⟨rfl,_,Eq.trans (zw_ _ _ _) (congrArg (World.drewN _) (Nat.add_assoc _ _ _))⟩)));try go_wp2_with (first|(go_at_call 79;(with_reducible refine (impl_kidCount.calls a0_0 t144 _ A5.out).mono ?_);rintro e w' ⟨rfl,⟨nd,rfl⟩⟩;(try first|exact ⟨rfl,_,zw_ _ _ _⟩|exact ⟨rfl,_,Eq.trans (zw_ _ _ _) (congrArg (World.drewN _) (Nat.add_assoc _ _ _))⟩))))
   go_meet
   case rel => exact ⟨_,(true),zV_,H',⟨by first|omega|exact Nat.le_refl _⟩,⟨by (with_reducible repeat first|refine zl_ ?_ _|refine zr_ ?_|refine zk_ ?_ _);exact BK143.out⟩,⟨by repeat (first|(with_reducible first|exact HB.out|apply za_|apply zn_|apply zd_|refine zs_ ?_ GE143.out)|exact HB.out)⟩⟩
 case rest =>
  clear HC3
  try clear p2
  try clear c4
  try clear c6
  try clear c6b0
  try clear c6b1
  try clear hcz8_0
  try clear hcz8_1
  try clear hcz8_2
  try clear hcz8_3
  try clear hcz9_0
  try clear hcz9_1
  try clear hcz9_2
  try clear hcz9_3
  try clear hfz8_0
  try clear hfz8_1
  try clear hfz8_2
  try clear hfz8_3
  try clear hfz9_0
  try clear hfz9_1
  try clear hfz9_2
  try clear hfz9_3
  obtain ⟨kq,x20_2,rfl,HA,HJ2,BK143,HB⟩:=hcut
  cases kq with
  |zero => exact absurd HA.out (by simp [impl_exNodeOk.j0])
  |succ kj2 =>
   have H:=HA.out
   clear HA
   simp only [impl_exNodeOk.j0] at H
   by_cases c10 : x20_2 = true
   ·subst c10
    have H1 : (some false) = some r:=by rw [if_pos rfl] at H;exact H
    clear H
    have H:=H1
    clear H1
    obtain rfl:=Option.some.inj H
    go_wp2
    repeat (go_quiet (fail);try go_wp2)
    go_ret
    exact ⟨zE_,by repeat (first|(with_reducible first|exact HB.out|apply za_|apply zn_|apply zd_|refine zs_ ?_ GE143.out)|exact HB.out)⟩
   ·replace c10:=Bool.eq_false_iff.mpr c10
    subst c10
    have H1 : (if a0_1 = 0 then (if a0_2.toList = ([] : List UInt8) then (if a0_0 = 2 then ((impl_VarName.f kj2 a0_2).bind fun t146 => (some t146)) else (some true)) else (if a0_0 = 2 then ((impl_VarName.f kj2 a0_2).bind fun t147 => (some t147)) else (some false))) else (if a0_0 = 1 then ((impl_within.f a0_1 0 99).bind fun t148 => (if a0_2.toList = ([] : List UInt8) then (if a0_0 = 2 then ((impl_VarName.f kj2 a0_2).bind fun t149 => (if t148 = true then (some t149) else (some false))) else (if t148 = true then (some true) else (some false))) else (if a0_0 = 2 then ((impl_VarName.f kj2 a0_2).bind fun t150 => (if t148 = true then (some t150) else (some false))) else (if t148 = true then (some false) else (some false))))) else (if a0_2.toList = ([] : List UInt8) then (if a0_0 = 2 then ((impl_VarName.f kj2 a0_2).bind fun t151 => (some false)) else (some false)) else (if a0_0 = 2 then ((impl_VarName.f kj2 a0_2).bind fun t152 => (some false)) else (some false))))) = some r:=by rw [if_neg (show ¬ (false = true) by decide)] at H;exact H
    clear H
    have H:=H1
    clear H1
    by_cases c11 : a0_1 = 0
    ·rw [if_pos c11] at H
     have c11b0 : (a0_1 == 0) = true:=beq_iff_eq.mpr c11
     have c11b1 : (a0_1 != 0) = false:=bne_eq_false_iff_eq.mpr c11
     clear c11
     by_cases c12 : a0_2.toList = ([] : List UInt8)
     ·rw [if_pos c12] at H
      have c12b0 : (a0_2.toList == ([] : List UInt8)) = true:=beq_iff_eq.mpr c12
      have c12b1 : (a0_2.toList != ([] : List UInt8)) = false:=bne_eq_false_iff_eq.mpr c12
      clear c12
      by_cases c13 : a0_0 = 2
      ·rw [if_pos c13] at H
       have c13b0 : (a0_0 == 2) = true:=beq_iff_eq.mpr c13
       have c13b1 : (a0_0 != 2) = false:=bne_eq_false_iff_eq.mpr c13
       clear c13
       replace H:=Option.bind_eq_some_iff.mp H
       obtain ⟨t146,A140,H⟩:=H
       replace H : (some t146) = some r:=H
       have A14:=zm_ A140
       clear A140
       obtain rfl:=Option.some.inj H
       have hcz15_0 : wc.cell? ⟨gb143,0,none⟩ = some (.int .i64 a0_0):=(zc_ BK143.out 0).trans rfl
       have hcz15_1 : wc.cell? ⟨gb143,1,none⟩ = some (.int .i64 a0_1):=(zc_ BK143.out 1).trans rfl
       have hcz15_2 : wc.cell? ⟨gb143,2,none⟩ = some (.string a0_2):=(zc_ BK143.out 2).trans rfl
       have hcz15_3 : wc.cell? ⟨gb143,3,none⟩ = some (.slice A0_3 l0_3.length c0_3):=(zc_ BK143.out 3).trans rfl
       have hfz15_0:=zf_ BK143.out 0
       have hfz15_1:=zf_ BK143.out 1
       have hfz15_2:=zf_ BK143.out 2
       have hfz15_3:=zf_ BK143.out 3
       go_wp2_with (first|(go_at_call 81;(with_reducible refine (impl_VarName.calls kj2 a0_2 t146 _ A14.out).mono ?_);rintro e w' ⟨rfl,⟨nd,rfl⟩⟩;(try first|exact ⟨rfl,_,zw_ _ _ _⟩|exact ⟨rfl,_,Eq.trans (zw_ _ _ _) (congrArg (World.drewN _) (Nat.add_assoc _ _ _))⟩)))
       repeat (go_quiet (first|(go_at_call 81;(with_reducible refine (impl_VarName.calls kj2 a0_2 t146 _ A14.out).mono ?_);rintro e w' ⟨rfl,⟨nd,rfl⟩⟩;(try first|exact ⟨rfl,_,zw_ _ _ _⟩|exact ⟨rfl,_,Eq.trans (zw_ _ _ _) (congrArg (World.drewN _) (Nat.add_assoc _ _ _))⟩)));try go_wp2_with (first|(go_at_call 81;(with_reducible refine (impl_VarName.calls kj2 a0_2 t146 _ A14.out).mono ?_);rintro e w' ⟨rfl,⟨nd,rfl⟩⟩;(try first|exact ⟨rfl,_,zw_ _ _ _⟩|exact ⟨rfl,_,Eq.trans (zw_ _ _ _) (congrArg (World.drewN _) (Nat.add_assoc _ _ _))⟩))))
       go_ret
       exact ⟨zE_,by repeat (first|(with_reducible first|exact HB.out|apply za_|apply zn_|apply zd_|refine zs_ ?_ GE143.out)|exact HB.out)⟩
      ·rw [if_neg c13] at H
       have c13b0 : (a0_0 == 2) = false:=beq_eq_false_iff_ne.mpr c13
       have c13b1 : (a0_0 != 2) = true:=bne_iff_ne.mpr c13
       obtain rfl:=Option.some.inj H
       have hcz16_0 : wc.cell? ⟨gb143,0,none⟩ = some (.int .i64 a0_0):=(zc_ BK143.out 0).trans rfl
       have hcz16_1 : wc.cell? ⟨gb143,1,none⟩ = some (.int .i64 a0_1):=(zc_ BK143.out 1).trans rfl
       have hcz16_2 : wc.cell? ⟨gb143,2,none⟩ = some (.string a0_2):=(zc_ BK143.out 2).trans rfl
       have hcz16_3 : wc.cell? ⟨gb143,3,none⟩ = some (.slice A0_3 l0_3.length c0_3):=(zc_ BK143.out 3).trans rfl
       have hfz16_0:=zf_ BK143.out 0
       have hfz16_1:=zf_ BK143.out 1
       have hfz16_2:=zf_ BK143.out 2
       have hfz16_3:=zf_ BK143.out 3
       go_wp2
       repeat (go_quiet (fail);try go_wp2)
       go_ret
       exact ⟨zE_,by repeat (first|(with_reducible first|exact HB.out|apply za_|apply zn_|apply zd_|refine zs_ ?_ GE143.out)|exact HB.out)⟩
     ·rw [if_neg c12] at H
      have c12b0 : (a0_2.toList == ([] : List UInt8)) = false:=beq_eq_false_iff_ne.mpr c12
      have c12b1 : (a0_2.toList != ([] : List UInt8)) = true:=bne_iff_ne.mpr c12
      by_cases c17 : a0_0 = 2
      ·rw [if_pos c17] at H
       have c17b0 : (a0_0 == 2) = true:=beq_iff_eq.mpr c17
       have c17b1 : (a0_0 != 2) = false:=bne_eq_false_iff_eq.mpr c17
       clear c17
       replace H:=Option.bind_eq_some_iff.mp H
       obtain ⟨t147,A180,H⟩:=H
       replace H : (some t147) = some r:=H
       have A18:=zm_ A180
       clear A180
       obtain rfl:=Option.some.inj H
       have hcz19_0 : wc.cell? ⟨gb143,0,none⟩ = some (.int .i64 a0_0):=(zc_ BK143.out 0).trans rfl
       have hcz19_1 : wc.cell? ⟨gb143,1,none⟩ = some (.int .i64 a0_1):=(zc_ BK143.out 1).trans rfl
       have hcz19_2 : wc.cell? ⟨gb143,2,none⟩ = some (.string a0_2):=(zc_ BK143.out 2).trans rfl
       have hcz19_3 : wc.cell? ⟨gb143,3,none⟩ = some (.slice A0_3 l0_3.length c0_3):=(zc_ BK143.out 3).trans rfl
       have hfz19_0:=zf_ BK143.out 0
       have hfz19_1:=zf_ BK143.out 1
       have hfz19_2:=zf_ BK143.out 2
       have hfz19_3:=zf_ BK143.out 3
       go_wp2_with (first|(go_at_call 81;(with_reducible refine (impl_VarName.calls kj2 a0_2 t147 _ A18.out).mono ?_);rintro e w' ⟨rfl,⟨nd,rfl⟩⟩;(try first|exact ⟨rfl,_,zw_ _ _ _⟩|exact ⟨rfl,_,Eq.trans (zw_ _ _ _) (congrArg (World.drewN _) (Nat.add_assoc _ _ _))⟩)))
       repeat (go_quiet (first|(go_at_call 81;(with_reducible refine (impl_VarName.calls kj2 a0_2 t147 _ A18.out).mono ?_);rintro e w' ⟨rfl,⟨nd,rfl⟩⟩;(try first|exact ⟨rfl,_,zw_ _ _ _⟩|exact ⟨rfl,_,Eq.trans (zw_ _ _ _) (congrArg (World.drewN _) (Nat.add_assoc _ _ _))⟩)));try go_wp2_with (first|(go_at_call 81;(with_reducible refine (impl_VarName.calls kj2 a0_2 t147 _ A18.out).mono ?_);rintro e w' ⟨rfl,⟨nd,rfl⟩⟩;(try first|exact ⟨rfl,_,zw_ _ _ _⟩|exact ⟨rfl,_,Eq.trans (zw_ _ _ _) (congrArg (World.drewN _) (Nat.add_assoc _ _ _))⟩))))
       go_ret
       exact ⟨zE_,by repeat (first|(with_reducible first|exact HB.out|apply za_|apply zn_|apply zd_|refine zs_ ?_ GE143.out)|exact HB.out)⟩
      ·rw [if_neg c17] at H
       have c17b0 : (a0_0 == 2) = false:=beq_eq_false_iff_ne.mpr c17
       have c17b1 : (a0_0 != 2) = true:=bne_iff_ne.mpr c17
       obtain rfl:=Option.some.inj H
       have hcz20_0 : wc.cell? ⟨gb143,0,none⟩ = some (.int .i64 a0_0):=(zc_ BK143.out 0).trans rfl
       have hcz20_1 : wc.cell? ⟨gb143,1,none⟩ = some (.int .i64 a0_1):=(zc_ BK143.out 1).trans rfl
       have hcz20_2 : wc.cell? ⟨gb143,2,none⟩ = some (.string a0_2):=(zc_ BK143.out 2).trans rfl
       have hcz20_3 : wc.cell? ⟨gb143,3,none⟩ = some (.slice A0_3 l0_3.length c0_3):=(zc_ BK143.out 3).trans rfl
       have hfz20_0:=zf_ BK143.out 0
       have hfz20_1:=zf_ BK143.out 1
       have hfz20_2:=zf_ BK143.out 2
       have hfz20_3:=zf_ BK143.out 3
       go_wp2
       repeat (go_quiet (fail);try go_wp2)
       go_ret
       exact ⟨zE_,by repeat (first|(with_reducible first|exact HB.out|apply za_|apply zn_|apply zd_|refine zs_ ?_ GE143.out)|exact HB.out)⟩
    ·rw [if_neg c11] at H
     have c11b0 : (a0_1 == 0) = false:=beq_eq_false_iff_ne.mpr c11
     have c11b1 : (a0_1 != 0) = true:=bne_iff_ne.mpr c11
     by_cases c21 : a0_0 = 1
     ·rw [if_pos c21] at H
      have c21b0 : (a0_0 == 1) = true:=beq_iff_eq.mpr c21
      have c21b1 : (a0_0 != 1) = false:=bne_eq_false_iff_eq.mpr c21
      clear c21
      replace H:=Option.bind_eq_some_iff.mp H
      obtain ⟨t148,A220,H⟩:=H
      replace H : (if a0_2.toList = ([] : List UInt8) then (if a0_0 = 2 then ((impl_VarName.f kj2 a0_2).bind fun t149 => (if t148 = true then (some t149) else (some false))) else (if t148 = true then (some true) else (some false))) else (if a0_0 = 2 then ((impl_VarName.f kj2 a0_2).bind fun t150 => (if t148 = true then (some t150) else (some false))) else (if t148 = true then (some false) else (some false)))) = some r:=H
      have A22:=zm_ A220
      clear A220
      by_cases c23 : a0_2.toList = ([] : List UInt8)
      ·rw [if_pos c23] at H
       have c23b0 : (a0_2.toList == ([] : List UInt8)) = true:=beq_iff_eq.mpr c23
       have c23b1 : (a0_2.toList != ([] : List UInt8)) = false:=bne_eq_false_iff_eq.mpr c23
       clear c23
       by_cases c24 : a0_0 = 2
       ·rw [if_pos c24] at H
        have c24b0 : (a0_0 == 2) = true:=beq_iff_eq.mpr c24
        have c24b1 : (a0_0 != 2) = false:=bne_eq_false_iff_eq.mpr c24
        clear c24
        replace H:=Option.bind_eq_some_iff.mp H
        obtain ⟨t149,A250,H⟩:=H
        replace H : (if t148 = true then (some t149) else (some false)) = some r:=H
        have A25:=zm_ A250
        clear A250
        by_cases c26 : t148 = true
        ·subst c26
         have H1 : (some t149) = some r:=by rw [if_pos rfl] at H;exact H
         clear H
         have H:=H1
         clear H1
         obtain rfl:=Option.some.inj H
         have hcz27_0 : wc.cell? ⟨gb143,0,none⟩ = some (.int .i64 a0_0):=(zc_ BK143.out 0).trans rfl
         have hcz27_1 : wc.cell? ⟨gb143,1,none⟩ = some (.int .i64 a0_1):=(zc_ BK143.out 1).trans rfl
         have hcz27_2 : wc.cell? ⟨gb143,2,none⟩ = some (.string a0_2):=(zc_ BK143.out 2).trans rfl
         have hcz27_3 : wc.cell? ⟨gb143,3,none⟩ = some (.slice A0_3 l0_3.length c0_3):=(zc_ BK143.out 3).trans rfl
         have hfz27_0:=zf_ BK143.out 0
         have hfz27_1:=zf_ BK143.out 1
         have hfz27_2:=zf_ BK143.out 2
         have hfz27_3:=zf_ BK143.out 3
         go_wp2_with (first|(go_at_call 49;(with_reducible refine (impl_within.calls a0_1 0 99 true _ A22.out).mono ?_);rintro e w' ⟨rfl,⟨nd,rfl⟩⟩;(try first|exact ⟨rfl,_,zw_ _ _ _⟩|exact ⟨rfl,_,Eq.trans (zw_ _ _ _) (congrArg (World.drewN _) (Nat.add_assoc _ _ _))⟩))|(go_at_call 81;(with_reducible refine (impl_VarName.calls kj2 a0_2 t149 _ A25.out).mono ?_);rintro e w' ⟨rfl,⟨nd,rfl⟩⟩;(try first|exact ⟨rfl,_,zw_ _ _ _⟩|exact ⟨rfl,_,Eq.trans (zw_ _ _ _) (congrArg (World.drewN _) (Nat.add_assoc _ _ _))⟩)))
         repeat (go_quiet (first|(go_at_call 49;(with_reducible refine (impl_within.calls a0_1 0 99 true _ A22.out).mono ?_);rintro e w' ⟨rfl,⟨nd,rfl⟩⟩;(try first|exact ⟨rfl,_,zw_ _ _ _⟩|exact ⟨rfl,_,Eq.trans (zw_ _ _ _) (congrArg (World.drewN _) (Nat.add_assoc _ _ _))⟩))|(go_at_call 81;(with_reducible refine (impl_VarName.calls kj2 a0_2 t149 _ A25.out).mono ?_);rintro e w' ⟨rfl,⟨nd,rfl⟩⟩;(try first|exact ⟨rfl,_,zw_ _ _ _⟩|exact ⟨rfl,_,Eq.trans (zw_ _ _ _) (congrArg (World.drewN _) (Nat.add_assoc _ _ _))⟩)));try go_wp2_with (first|(go_at_call 49;(with_reducible refine (impl_within.calls a0_1 0 99 true _ A22.out).mono ?_);rintro e w' ⟨rfl,⟨nd,rfl⟩⟩;(try first|exact ⟨rfl,_,zw_ _ _ _⟩|exact ⟨rfl,_,Eq.trans (zw_ _ _ _) (congrArg (World.drewN _) (Nat.add_assoc _ _ _))⟩))|(go_at_call 81;(with_reducible refine (impl_VarName.calls kj2 a0_2 t149 _ A25.out).mono ?_);rintro e w' ⟨rfl,⟨nd,rfl⟩⟩;(try first|exact ⟨rfl,_,zw_ _ _ _⟩|exact ⟨rfl,_,Eq.trans (zw_ _ _ _) (congrArg (World.drewN _) (Nat.add_assoc _ _ _))⟩))))
         go_ret
         exact ⟨zE_,by repeat (first|(with_reducible first|exact HB.out|apply za_|apply zn_|apply zd_|refine zs_ ?_ GE143.out)|exact HB.out)⟩
        ·replace c26:=Bool.eq_false_iff.mpr c26
         subst c26
         have H1 : (some false) = some r:=by rw [if_neg (show ¬ (false = true) by decide)] at H;exact H
         clear H
         have H:=H1
         clear H1
         obtain rfl:=Option.some.inj H
         have hcz28_0 : wc.cell? ⟨gb143,0,none⟩ = some (.int .i64 a0_0):=(zc_ BK143.out 0).trans rfl
         have hcz28_1 : wc.cell? ⟨gb143,1,none⟩ = some (.int .i64 a0_1):=(zc_ BK143.out 1).trans rfl
         have hcz28_2 : wc.cell? ⟨gb143,2,none⟩ = some (.string a0_2):=(zc_ BK143.out 2).trans rfl
         have hcz28_3 : wc.cell? ⟨gb143,3,none⟩ = some (.slice A0_3 l0_3.length c0_3):=(zc_ BK143.out 3).trans rfl
         have hfz28_0:=zf_ BK143.out 0
         have hfz28_1:=zf_ BK143.out 1
         have hfz28_2:=zf_ BK143.out 2
         have hfz28_3:=zf_ BK143.out 3
         go_wp2_with (first|(go_at_call 49;(with_reducible refine (impl_within.calls a0_1 0 99 false _ A22.out).mono ?_);rintro e w' ⟨rfl,⟨nd,rfl⟩⟩;(try first|exact ⟨rfl,_,zw_ _ _ _⟩|exact ⟨rfl,_,Eq.trans (zw_ _ _ _) (congrArg (World.drewN _) (Nat.add_assoc _ _ _))⟩))|(go_at_call 81;(with_reducible refine (impl_VarName.calls kj2 a0_2 t149 _ A25.out).mono ?_);rintro e w' ⟨rfl,⟨nd,rfl⟩⟩;(try first|exact ⟨rfl,_,zw_ _ _ _⟩|exact ⟨rfl,_,Eq.trans (zw_ _ _ _) (congrArg (World.drewN _) (Nat.add_assoc _ _ _))⟩)))
         repeat (go_quiet (first|(go_at_call 49;(with_reducible refine (impl_within.calls a0_1 0 99 false _ A22.out).mono ?_);rintro e w' ⟨rfl,⟨nd,rfl⟩⟩;(try first|exact ⟨rfl,_,zw_ _ _ _⟩|exact ⟨rfl,_,Eq.trans (zw_ _ _ _) (congrArg (World.drewN _) (Nat.add_assoc _ _ _))⟩))|(go_at_call 81;(with_reducible refine (impl_VarName.calls kj2 a0_2 t149 _ A25.out).mono ?_);rintro e w' ⟨rfl,⟨nd,rfl⟩⟩;(try first|exact ⟨rfl,_,zw_ _ _ _⟩|exact ⟨rfl,_,Eq.trans (zw_ _ _ _) (congrArg (World.drewN _) (Nat.add_assoc _ _ _))⟩)));try go_wp2_with (first|(go_at_call 49;(with_reducible refine (impl_within.calls a0_1 0 99 false _ A22.out).mono ?_);rintro e w' ⟨rfl,⟨nd,rfl⟩⟩;(try first|exact ⟨rfl,_,zw_ _ _ _⟩|exact ⟨rfl,_,Eq.trans (zw_ _ _ _) (congrArg (World.drewN _) (Nat.add_assoc _ _ _))⟩))|(go_at_call 81;(with_reducible refine (impl_VarName.calls kj2 a0_2 t149 _ A25.out).mono ?_);rintro e w' ⟨rfl,⟨nd,rfl⟩⟩;(try first|exact ⟨rfl,_,zw_ _ _ _⟩|exact ⟨rfl,_,Eq.trans (zw_ _ _ _) (congrArg (World.drewN _) (Nat.add_assoc _ _ _))⟩))))
         go_ret
         exact ⟨zE_,by repeat (first|(with_reducible first|exact HB.out|apply za_|apply zn_|apply zd_|refine zs_ ?_ GE143.out)|exact HB.out)⟩
       ·rw [if_neg c24] at H
        have c24b0 : (a0_0 == 2) = false:=beq_eq_false_iff_ne.mpr c24
        have c24b1 : (a0_0 != 2) = true:=bne_iff_ne.mpr c24
        by_cases c29 : t148 = true
        ·subst c29
         have H1 : (some true) = some r:=by rw [if_pos rfl] at H;exact H
         clear H
         have H:=H1
         clear H1
         obtain rfl:=Option.some.inj H
         have hcz30_0 : wc.cell? ⟨gb143,0,none⟩ = some (.int .i64 a0_0):=(zc_ BK143.out 0).trans rfl
         have hcz30_1 : wc.cell? ⟨gb143,1,none⟩ = some (.int .i64 a0_1):=(zc_ BK143.out 1).trans rfl
         have hcz30_2 : wc.cell? ⟨gb143,2,none⟩ = some (.string a0_2):=(zc_ BK143.out 2).trans rfl
         have hcz30_3 : wc.cell? ⟨gb143,3,none⟩ = some (.slice A0_3 l0_3.length c0_3):=(zc_ BK143.out 3).trans rfl
         have hfz30_0:=zf_ BK143.out 0
         have hfz30_1:=zf_ BK143.out 1
         have hfz30_2:=zf_ BK143.out 2
         have hfz30_3:=zf_ BK143.out 3
         go_wp2_with (first|(go_at_call 49;(with_reducible refine (impl_within.calls a0_1 0 99 true _ A22.out).mono ?_);rintro e w' ⟨rfl,⟨nd,rfl⟩⟩;(try first|exact ⟨rfl,_,zw_ _ _ _⟩|exact ⟨rfl,_,Eq.trans (zw_ _ _ _) (congrArg (World.drewN _) (Nat.add_assoc _ _ _))⟩)))
         repeat (go_quiet (first|(go_at_call 49;(with_reducible refine (impl_within.calls a0_1 0 99 true _ A22.out).mono ?_);rintro e w' ⟨rfl,⟨nd,rfl⟩⟩;(try first|exact ⟨rfl,_,zw_ _ _ _⟩|exact ⟨rfl,_,Eq.trans (zw_ _ _ _) (congrArg (World.drewN _) (Nat.add_assoc _ _ _))⟩)));try go_wp2_with (first|(go_at_call 49;(with_reducible refine (impl_within.calls a0_1 0 99 true _ A22.out).mono ?_);rintro e w' ⟨rfl,⟨nd,rfl⟩⟩;(try first|exact ⟨rfl,_,zw_ _ _ _⟩|exact ⟨rfl,_,Eq.trans (zw_ _ _ _) (congrArg (World.drewN _) (Nat.add_assoc _ _ _))⟩))))
         go_ret
         exact ⟨zE_,by repeat (first|(with_reducible first|exact HB.out|apply za_|apply zn_|apply zd_|refine zs_ ?_ GE143.out)|exact HB.out)⟩
        ·replace c29:=Bool.eq_false_iff.mpr c29
         subst c29
         have H1 : (some false) = some r:=by rw [if_neg (show ¬ (false = true) by decide)] at H;exact H
         clear H
         have H:=H1
         clear H1
         obtain rfl:=Option.some.inj H
         have hcz31_0 : wc.cell? ⟨gb143,0,none⟩ = some (.int .i64 a0_0):=(zc_ BK143.out 0).trans rfl
         have hcz31_1 : wc.cell? ⟨gb143,1,none⟩ = some (.int .i64 a0_1):=(zc_ BK143.out 1).trans rfl
         have hcz31_2 : wc.cell? ⟨gb143,2,none⟩ = some (.string a0_2):=(zc_ BK143.out 2).trans rfl
         have hcz31_3 : wc.cell? ⟨gb143,3,none⟩ = some (.slice A0_3 l0_3.length c0_3):=(zc_ BK143.out 3).trans rfl
         have hfz31_0:=zf_ BK143.out 0
         have hfz31_1:=zf_ BK143.out 1
         have hfz31_2:=zf_ BK143.out 2
         have hfz31_3:=zf_ BK143.out 3
         go_wp2_with (first|(go_at_call 49;(with_reducible refine (impl_within.calls a0_1 0 99 false _ A22.out).mono ?_);rintro e w' ⟨rfl,⟨nd,rfl⟩⟩;(try first|exact ⟨rfl,_,zw_ _ _ _⟩|exact ⟨rfl,_,Eq.trans (zw_ _ _ _) (congrArg (World.drewN _) (Nat.add_assoc _ _ _))⟩)))
         repeat (go_quiet (first|(go_at_call 49;(with_reducible refine (impl_within.calls a0_1 0 99 false _ A22.out).mono ?_);rintro e w' ⟨rfl,⟨nd,rfl⟩⟩;(try first|exact ⟨rfl,_,zw_ _ _ _⟩|exact ⟨rfl,_,Eq.trans (zw_ _ _ _) (congrArg (World.drewN _) (Nat.add_assoc _ _ _))⟩)));try go_wp2_with (first|(go_at_call 49;(with_reducible refine (impl_within.calls a0_1 0 99 false _ A22.out).mono ?_);rintro e w' ⟨rfl,⟨nd,rfl⟩⟩;(try first|exact ⟨rfl,_,zw_ _ _ _⟩|exact ⟨rfl,_,Eq.trans (zw_ _ _ _) (congrArg (World.drewN _) (Nat.add_assoc _ _ _))⟩))))
         go_ret
         exact ⟨zE_,by repeat (first|(with_reducible first|exact HB.out|apply za_|apply zn_|apply zd_|refine zs_ ?_ GE143.out)|exact HB.out)⟩
      ·rw [if_neg c23] at H
       have c23b0 : (a0_2.toList == ([] : List UInt8)) = false:=beq_eq_false_iff_ne.mpr c23
       have c23b1 : (a0_2.toList != ([] : List UInt8)) = true:=bne_iff_ne.mpr c23
       by_cases c32 : a0_0 = 2
       ·rw [if_pos c32] at H
        have c32b0 : (a0_0 == 2) = true:=beq_iff_eq.mpr c32
        have c32b1 : (a0_0 != 2) = false:=bne_eq_false_iff_eq.mpr c32
        clear c32
        replace H:=Option.bind_eq_some_iff.mp H
        obtain ⟨t150,A330,H⟩:=H
        replace H : (if t148 = true then (some t150) else (some false)) = some r:=H
        have A33:=zm_ A330
        clear A330
        by_cases c34 : t148 = true
        ·subst c34
         have H1 : (some t150) = some r:=by rw [if_pos rfl] at H;exact H
         clear H
         have H:=H1
         clear H1
         obtain rfl:=Option.some.inj H
         have hcz35_0 : wc.cell? ⟨gb143,0,none⟩ = some (.int .i64 a0_0):=(zc_ BK143.out 0).trans rfl
         have hcz35_1 : wc.cell? ⟨gb143,1,none⟩ = some (.int .i64 a0_1):=(zc_ BK143.out 1).trans rfl
         have hcz35_2 : wc.cell? ⟨gb143,2,none⟩ = some (.string a0_2):=(zc_ BK143.out 2).trans rfl
         have hcz35_3 : wc.cell? ⟨gb143,3,none⟩ = some (.slice A0_3 l0_3.length c0_3):=(zc_ BK143.out 3).trans rfl
         have hfz35_0:=zf_ BK143.out 0
         have hfz35_1:=zf_ BK143.out 1
         have hfz35_2:=zf_ BK143.out 2
         have hfz35_3:=zf_ BK143.out 3
         go_wp2_with (first|(go_at_call 49;(with_reducible refine (impl_within.calls a0_1 0 99 true _ A22.out).mono ?_);rintro e w' ⟨rfl,⟨nd,rfl⟩⟩;(try first|exact ⟨rfl,_,zw_ _ _ _⟩|exact ⟨rfl,_,Eq.trans (zw_ _ _ _) (congrArg (World.drewN _) (Nat.add_assoc _ _ _))⟩))|(go_at_call 81;(with_reducible refine (impl_VarName.calls kj2 a0_2 t150 _ A33.out).mono ?_);rintro e w' ⟨rfl,⟨nd,rfl⟩⟩;(try first|exact ⟨rfl,_,zw_ _ _ _⟩|exact ⟨rfl,_,Eq.trans (zw_ _ _ _) (congrArg (World.drewN _) (Nat.add_assoc _ _ _))⟩)))
         repeat (go_quiet (first|(go_at_call 49;(with_reducible refine (impl_within.calls a0_1 0 99 true _ A22.out).mono ?_);rintro e w' ⟨rfl,⟨nd,rfl⟩⟩;(try first|exact ⟨rfl,_,zw_ _ _ _⟩|exact ⟨rfl,_,Eq.trans (zw_ _ _ _) (congrArg (World.drewN _) (Nat.add_assoc _ _ _))⟩))|(go_at_call 81;(with_reducible refine (impl_VarName.calls kj2 a0_2 t150 _ A33.out).mono ?_);rintro e w' ⟨rfl,⟨nd,rfl⟩⟩;(try first|exact ⟨rfl,_,zw_ _ _ _⟩|exact ⟨rfl,_,Eq.trans (zw_ _ _ _) (congrArg (World.drewN _) (Nat.add_assoc _ _ _))⟩)));try go_wp2_with (first|(go_at_call 49;(with_reducible refine (impl_within.calls a0_1 0 99 true _ A22.out).mono ?_);rintro e w' ⟨rfl,⟨nd,rfl⟩⟩;(try first|exact ⟨rfl,_,zw_ _ _ _⟩|exact ⟨rfl,_,Eq.trans (zw_ _ _ _) (congrArg (World.drewN _) (Nat.add_assoc _ _ _))⟩))|(go_at_call 81;(with_reducible refine (impl_VarName.calls kj2 a0_2 t150 _ A33.out).mono ?_);rintro e w' ⟨rfl,⟨nd,rfl⟩⟩;(try first|exact ⟨rfl,_,zw_ _ _ _⟩|exact ⟨rfl,_,Eq.trans (zw_ _ _ _) (congrArg (World.drewN _) (Nat.add_assoc _ _ _))⟩))))
         go_ret
         exact ⟨zE_,by repeat (first|(with_reducible first|exact HB.out|apply za_|apply zn_|apply zd_|refine zs_ ?_ GE143.out)|exact HB.out)⟩
        ·replace c34:=Bool.eq_false_iff.mpr c34
         subst c34
         have H1 : (some false) = some r:=by rw [if_neg (show ¬ (false = true) by decide)] at H;exact H
         clear H
         have H:=H1
         clear H1
         obtain rfl:=Option.some.inj H
         have hcz36_0 : wc.cell? ⟨gb143,0,none⟩ = some (.int .i64 a0_0):=(zc_ BK143.out 0).trans rfl
         have hcz36_1 : wc.cell? ⟨gb143,1,none⟩ = some (.int .i64 a0_1):=(zc_ BK143.out 1).trans rfl
         have hcz36_2 : wc.cell? ⟨gb143,2,none⟩ = some (.string a0_2):=(zc_ BK143.out 2).trans rfl
         have hcz36_3 : wc.cell? ⟨gb143,3,none⟩ = some (.slice A0_3 l0_3.length c0_3):=(zc_ BK143.out 3).trans rfl
         have hfz36_0:=zf_ BK143.out 0
         have hfz36_1:=zf_ BK143.out 1
         have hfz36_2:=zf_ BK143.out 2
         have hfz36_3:=zf_ BK143.out 3
         go_wp2_with (first|(go_at_call 49;(with_reducible refine (impl_within.calls a0_1 0 99 false _ A22.out).mono ?_);rintro e w' ⟨rfl,⟨nd,rfl⟩⟩;(try first|exact ⟨rfl,_,zw_ _ _ _⟩|exact ⟨rfl,_,Eq.trans (zw_ _ _ _) (congrArg (World.drewN _) (Nat.add_assoc _ _ _))⟩))|(go_at_call 81;(with_reducible refine (impl_VarName.calls kj2 a0_2 t150 _ A33.out).mono ?_);rintro e w' ⟨rfl,⟨nd,rfl⟩⟩;(try first|exact ⟨rfl,_,zw_ _ _ _⟩|exact ⟨rfl,_,Eq.trans (zw_ _ _ _) (congrArg (World.drewN _) (Nat.add_assoc _ _ _))⟩)))
         repeat (go_quiet (first|(go_at_call 49;(with_reducible refine (impl_within.calls a0_1 0 99 false _ A22.out).mono ?_);rintro e w' ⟨rfl,⟨nd,rfl⟩⟩;(try first|exact ⟨rfl,_,zw_ _ _ _⟩|exact ⟨rfl,_,Eq.trans (zw_ _ _ _) (congrArg (World.drewN _) (Nat.add_assoc _ _ _))⟩))|(go_at_call 81;(with_reducible refine (impl_VarName.calls kj2 a0_2 t150 _ A33.out).mono ?_);rintro e w' ⟨rfl,⟨nd,rfl⟩⟩;(try first|exact ⟨rfl,_,zw_ _ _ _⟩|exact ⟨rfl,_,Eq.trans (zw_ _ _ _) (congrArg (World.drewN _) (Nat.add_assoc _ _ _))⟩)));try go_wp2_with (first|(go_at_call 49;(with_reducible refine (impl_within.calls a0_1 0 99 false _ A22.out).mono ?_);rintro e w' ⟨rfl,⟨nd,rfl⟩⟩;(try first|exact ⟨rfl,_,zw_ _ _ _⟩|exact ⟨rfl,_,Eq.trans (zw_ _ _ _) (congrArg (World.drewN _) (Nat.add_assoc _ _ _))⟩))|(go_at_call 81;(with_reducible refine (impl_VarName.calls kj2 a0_2 t150 _ A33.out).mono ?_);rintro e w' ⟨rfl,⟨nd,rfl⟩⟩;(try first|exact ⟨rfl,_,zw_ _ _ _⟩|exact ⟨rfl,_,Eq.trans (zw_ _ _ _) (congrArg (World.drewN _) (Nat.add_assoc _ _ _))⟩))))
         go_ret
         exact ⟨zE_,by repeat (first|(with_reducible first|exact HB.out|apply za_|apply zn_|apply zd_|refine zs_ ?_ GE143.out)|exact HB.out)⟩
       ·rw [if_neg c32] at H
        have c32b0 : (a0_0 == 2) = false:=beq_eq_false_iff_ne.mpr c32
        have c32b1 : (a0_0 != 2) = true:=bne_iff_ne.mpr c32
        by_cases c37 : t148 = true
        ·subst c37
         have H1 : (some false) = some r:=by rw [if_pos rfl] at H;exact H
         clear H
         have H:=H1
         clear H1
         obtain rfl:=Option.some.inj H
         have hcz38_0 : wc.cell? ⟨gb143,0,none⟩ = some (.int .i64 a0_0):=(zc_ BK143.out 0).trans rfl
         have hcz38_1 : wc.cell? ⟨gb143,1,none⟩ = some (.int .i64 a0_1):=(zc_ BK143.out 1).trans rfl
         have hcz38_2 : wc.cell? ⟨gb143,2,none⟩ = some (.string a0_2):=(zc_ BK143.out 2).trans rfl
         have hcz38_3 : wc.cell? ⟨gb143,3,none⟩ = some (.slice A0_3 l0_3.length c0_3):=(zc_ BK143.out 3).trans rfl
         have hfz38_0:=zf_ BK143.out 0
         have hfz38_1:=zf_ BK143.out 1
         have hfz38_2:=zf_ BK143.out 2
         have hfz38_3:=zf_ BK143.out 3
         go_wp2_with (first|(go_at_call 49;(with_reducible refine (impl_within.calls a0_1 0 99 true _ A22.out).mono ?_);rintro e w' ⟨rfl,⟨nd,rfl⟩⟩;(try first|exact ⟨rfl,_,zw_ _ _ _⟩|exact ⟨rfl,_,Eq.trans (zw_ _ _ _) (congrArg (World.drewN _) (Nat.add_assoc _ _ _))⟩)))
         repeat (go_quiet (first|(go_at_call 49;(with_reducible refine (impl_within.calls a0_1 0 99 true _ A22.out).mono ?_);rintro e w' ⟨rfl,⟨nd,rfl⟩⟩;(try first|exact ⟨rfl,_,zw_ _ _ _⟩|exact ⟨rfl,_,Eq.trans (zw_ _ _ _) (congrArg (World.drewN _) (Nat.add_assoc _ _ _))⟩)));try go_wp2_with (first|(go_at_call 49;(with_reducible refine (impl_within.calls a0_1 0 99 true _ A22.out).mono ?_);rintro e w' ⟨rfl,⟨nd,rfl⟩⟩;(try first|exact ⟨rfl,_,zw_ _ _ _⟩|exact ⟨rfl,_,Eq.trans (zw_ _ _ _) (congrArg (World.drewN _) (Nat.add_assoc _ _ _))⟩))))
         go_ret
         exact ⟨zE_,by repeat (first|(with_reducible first|exact HB.out|apply za_|apply zn_|apply zd_|refine zs_ ?_ GE143.out)|exact HB.out)⟩
        ·replace c37:=Bool.eq_false_iff.mpr c37
         subst c37
         have H1 : (some false) = some r:=by rw [if_neg (show ¬ (false = true) by decide)] at H;exact H
         clear H
         have H:=H1
         clear H1
         obtain rfl:=Option.some.inj H
         have hcz39_0 : wc.cell? ⟨gb143,0,none⟩ = some (.int .i64 a0_0):=(zc_ BK143.out 0).trans rfl
         have hcz39_1 : wc.cell? ⟨gb143,1,none⟩ = some (.int .i64 a0_1):=(zc_ BK143.out 1).trans rfl
         have hcz39_2 : wc.cell? ⟨gb143,2,none⟩ = some (.string a0_2):=(zc_ BK143.out 2).trans rfl
         have hcz39_3 : wc.cell? ⟨gb143,3,none⟩ = some (.slice A0_3 l0_3.length c0_3):=(zc_ BK143.out 3).trans rfl
         have hfz39_0:=zf_ BK143.out 0
         have hfz39_1:=zf_ BK143.out 1
         have hfz39_2:=zf_ BK143.out 2
         have hfz39_3:=zf_ BK143.out 3
         go_wp2_with (first|(go_at_call 49;(with_reducible refine (impl_within.calls a0_1 0 99 false _ A22.out).mono ?_);rintro e w' ⟨rfl,⟨nd,rfl⟩⟩;(try first|exact ⟨rfl,_,zw_ _ _ _⟩|exact ⟨rfl,_,Eq.trans (zw_ _ _ _) (congrArg (World.drewN _) (Nat.add_assoc _ _ _))⟩)))
         repeat (go_quiet (first|(go_at_call 49;(with_reducible refine (impl_within.calls a0_1 0 99 false _ A22.out).mono ?_);rintro e w' ⟨rfl,⟨nd,rfl⟩⟩;(try first|exact ⟨rfl,_,zw_ _ _ _⟩|exact ⟨rfl,_,Eq.trans (zw_ _ _ _) (congrArg (World.drewN _) (Nat.add_assoc _ _ _))⟩)));try go_wp2_with (first|(go_at_call 49;(with_reducible refine (impl_within.calls a0_1 0 99 false _ A22.out).mono ?_);rintro e w' ⟨rfl,⟨nd,rfl⟩⟩;(try first|exact ⟨rfl,_,zw_ _ _ _⟩|exact ⟨rfl,_,Eq.trans (zw_ _ _ _) (congrArg (World.drewN _) (Nat.add_assoc _ _ _))⟩))))
         go_ret
         exact ⟨zE_,by repeat (first|(with_reducible first|exact HB.out|apply za_|apply zn_|apply zd_|refine zs_ ?_ GE143.out)|exact HB.out)⟩
     ·rw [if_neg c21] at H
      have c21b0 : (a0_0 == 1) = false:=beq_eq_false_iff_ne.mpr c21
      have c21b1 : (a0_0 != 1) = true:=bne_iff_ne.mpr c21
      by_cases c40 : a0_2.toList = ([] : List UInt8)
      ·rw [if_pos c40] at H
       have c40b0 : (a0_2.toList == ([] : List UInt8)) = true:=beq_iff_eq.mpr c40
       have c40b1 : (a0_2.toList != ([] : List UInt8)) = false:=bne_eq_false_iff_eq.mpr c40
       clear c40
       by_cases c41 : a0_0 = 2
       ·rw [if_pos c41] at H
        have c41b0 : (a0_0 == 2) = true:=beq_iff_eq.mpr c41
        have c41b1 : (a0_0 != 2) = false:=bne_eq_false_iff_eq.mpr c41
        clear c41
        replace H:=Option.bind_eq_some_iff.mp H
        obtain ⟨t151,A420,H⟩:=H
        replace H : (some false) = some r:=H
        have A42:=zm_ A420
        clear A420
        obtain rfl:=Option.some.inj H
        have hcz43_0 : wc.cell? ⟨gb143,0,none⟩ = some (.int .i64 a0_0):=(zc_ BK143.out 0).trans rfl
        have hcz43_1 : wc.cell? ⟨gb143,1,none⟩ = some (.int .i64 a0_1):=(zc_ BK143.out 1).trans rfl
        have hcz43_2 : wc.cell? ⟨gb143,2,none⟩ = some (.string a0_2):=(zc_ BK143.out 2).trans rfl
        have hcz43_3 : wc.cell? ⟨gb143,3,none⟩ = some (.slice A0_3 l0_3.length c0_3):=(zc_ BK143.out 3).trans rfl
        have hfz43_0:=zf_ BK143.out 0
        have hfz43_1:=zf_ BK143.out 1
        have hfz43_2:=zf_ BK143.out 2
        have hfz43_3:=zf_ BK143.out 3
        go_wp2_with (first|(go_at_call 81;(with_reducible refine (impl_VarName.calls kj2 a0_2 t151 _ A42.out).mono ?_);rintro e w' ⟨rfl,⟨nd,rfl⟩⟩;(try first|exact ⟨rfl,_,zw_ _ _ _⟩|exact ⟨rfl,_,Eq.trans (zw_ _ _ _) (congrArg (World.drewN _) (Nat.add_assoc _ _ _))⟩)))
        repeat (go_quiet (first|(go_at_call 81;(with_reducible refine (impl_VarName.calls kj2 a0_2 t151 _ A42.out).mono ?_);rintro e w' ⟨rfl,⟨nd,rfl⟩⟩;(try first|exact ⟨rfl,_,zw_ _ _ _⟩|exact ⟨rfl,_,Eq.trans (zw_ _ _ _) (congrArg (World.drewN _) (Nat.add_assoc _ _ _))⟩)));try go_wp2_with (first|(go_at_call 81;(with_reducible refine (impl_VarName.calls kj2 a0_2 t151 _ A42.out).mono ?_);rintro e w' ⟨rfl,⟨nd,rfl⟩⟩;(try first|exact ⟨rfl,_,zw_ _ _ _⟩|exact ⟨rfl,_,Eq.trans (zw_ _ _ _) (congrArg (World.drewN _) (Nat.add_assoc _ _ _))⟩))))
        go_ret
        exact ⟨zE_,by repeat (first|(with_reducible first|exact HB.out|apply za_|apply zn_|apply zd_|refine zs_ ?_ GE143.out)|exact HB.out)⟩
       ·rw [if_neg c41] at H
        have c41b0 : (a0_0 == 2) = false:=beq_eq_false_iff_ne.mpr c41
        have c41b1 : (a0_0 != 2) = true:=bne_iff_ne.mpr c41
        obtain rfl:=Option.some.inj H
        have hcz44_0 : wc.cell? ⟨gb143,0,none⟩ = some (.int .i64 a0_0):=(zc_ BK143.out 0).trans rfl
        have hcz44_1 : wc.cell? ⟨gb143,1,none⟩ = some (.int .i64 a0_1):=(zc_ BK143.out 1).trans rfl
        have hcz44_2 : wc.cell? ⟨gb143,2,none⟩ = some (.string a0_2):=(zc_ BK143.out 2).trans rfl
        have hcz44_3 : wc.cell? ⟨gb143,3,none⟩ = some (.slice A0_3 l0_3.length c0_3):=(zc_ BK143.out 3).trans rfl
        have hfz44_0:=zf_ BK143.out 0
        have hfz44_1:=zf_ BK143.out 1
        have hfz44_2:=zf_ BK143.out 2
        have hfz44_3:=zf_ BK143.out 3
        go_wp2
        repeat (go_quiet (fail);try go_wp2)
        go_ret
        exact ⟨zE_,by repeat (first|(with_reducible first|exact HB.out|apply za_|apply zn_|apply zd_|refine zs_ ?_ GE143.out)|exact HB.out)⟩
      ·rw [if_neg c40] at H
       have c40b0 : (a0_2.toList == ([] : List UInt8)) = false:=beq_eq_false_iff_ne.mpr c40
       have c40b1 : (a0_2.toList != ([] : List UInt8)) = true:=bne_iff_ne.mpr c40
       by_cases c45 : a0_0 = 2
       ·rw [if_pos c45] at H
        have c45b0 : (a0_0 == 2) = true:=beq_iff_eq.mpr c45
        have c45b1 : (a0_0 != 2) = false:=bne_eq_false_iff_eq.mpr c45
        clear c45
        replace H:=Option.bind_eq_some_iff.mp H
        obtain ⟨t152,A460,H⟩:=H
        replace H : (some false) = some r:=H
        have A46:=zm_ A460
        clear A460
        obtain rfl:=Option.some.inj H
        have hcz47_0 : wc.cell? ⟨gb143,0,none⟩ = some (.int .i64 a0_0):=(zc_ BK143.out 0).trans rfl
        have hcz47_1 : wc.cell? ⟨gb143,1,none⟩ = some (.int .i64 a0_1):=(zc_ BK143.out 1).trans rfl
        have hcz47_2 : wc.cell? ⟨gb143,2,none⟩ = some (.string a0_2):=(zc_ BK143.out 2).trans rfl
        have hcz47_3 : wc.cell? ⟨gb143,3,none⟩ = some (.slice A0_3 l0_3.length c0_3):=(zc_ BK143.out 3).trans rfl
        have hfz47_0:=zf_ BK143.out 0
        have hfz47_1:=zf_ BK143.out 1
        have hfz47_2:=zf_ BK143.out 2
        have hfz47_3:=zf_ BK143.out 3
        go_wp2_with (first|(go_at_call 81;(with_reducible refine (impl_VarName.calls kj2 a0_2 t152 _ A46.out).mono ?_);rintro e w' ⟨rfl,⟨nd,rfl⟩⟩;(try first|exact ⟨rfl,_,zw_ _ _ _⟩|exact ⟨rfl,_,Eq.trans (zw_ _ _ _) (congrArg (World.drewN _) (Nat.add_assoc _ _ _))⟩)))
        repeat (go_quiet (first|(go_at_call 81;(with_reducible refine (impl_VarName.calls kj2 a0_2 t152 _ A46.out).mono ?_);rintro e w' ⟨rfl,⟨nd,rfl⟩⟩;(try first|exact ⟨rfl,_,zw_ _ _ _⟩|exact ⟨rfl,_,Eq.trans (zw_ _ _ _) (congrArg (World.drewN _) (Nat.add_assoc _ _ _))⟩)));try go_wp2_with (first|(go_at_call 81;(with_reducible refine (impl_VarName.calls kj2 a0_2 t152 _ A46.out).mono ?_);rintro e w' ⟨rfl,⟨nd,rfl⟩⟩;(try first|exact ⟨rfl,_,zw_ _ _ _⟩|exact ⟨rfl,_,Eq.trans (zw_ _ _ _) (congrArg (World.drewN _) (Nat.add_assoc _ _ _))⟩))))
        go_ret
        exact ⟨zE_,by repeat (first|(with_reducible first|exact HB.out|apply za_|apply zn_|apply zd_|refine zs_ ?_ GE143.out)|exact HB.out)⟩
       ·rw [if_neg c45] at H
        have c45b0 : (a0_0 == 2) = false:=beq_eq_false_iff_ne.mpr c45
        have c45b1 : (a0_0 != 2) = true:=bne_iff_ne.mpr c45
        obtain rfl:=Option.some.inj H
        have hcz48_0 : wc.cell? ⟨gb143,0,none⟩ = some (.int .i64 a0_0):=(zc_ BK143.out 0).trans rfl
        have hcz48_1 : wc.cell? ⟨gb143,1,none⟩ = some (.int .i64 a0_1):=(zc_ BK143.out 1).trans rfl
        have hcz48_2 : wc.cell? ⟨gb143,2,none⟩ = some (.string a0_2):=(zc_ BK143.out 2).trans rfl
        have hcz48_3 : wc.cell? ⟨gb143,3,none⟩ = some (.slice A0_3 l0_3.length c0_3):=(zc_ BK143.out 3).trans rfl
        have hfz48_0:=zf_ BK143.out 0
        have hfz48_1:=zf_ BK143.out 1
        have hfz48_2:=zf_ BK143.out 2
        have hfz48_3:=zf_ BK143.out 3
        go_wp2
        repeat (go_quiet (fail);try go_wp2)
        go_ret
        exact ⟨zE_,by repeat (first|(with_reducible first|exact HB.out|apply za_|apply zn_|apply zd_|refine zs_ ?_ GE143.out)|exact HB.out)⟩

def impl_ExprOk.l0 : Nat → List (S34) → Int → Int → List (S34) → Option (Bool)
 |0,_,_,_,_ => none
 |k + 1,x6,x7,x8,x154000 => if x8 < x7 then (if 0 ≤ x8 then (if x8 < (x6.length : Int) then ((impl_exNodeOk.f k ((rd_T34 x6 x8).f0) ((rd_T34 x6 x8).f1) ((rd_T34 x6 x8).f2) ((rd_T34 x6 x8).f3) x8).bind fun t156 => (if t156 = true then (impl_ExprOk.l0 k x6 x7 (wrap64 (x8 + 1)) x154000) else (some false))) else (none)) else (none)) else ((impl_within.f (x154000.length : Int) 1 20).bind fun t157 => (some t157))
def impl_ExprOk.f (k : Nat) (l0_0 : List (S34)) : Option (Bool):=impl_ExprOk.l0 k l0_0 (l0_0.length : Int) 0 l0_0
theorem impl_ExprOk.mono_l : ∀ k,(∀ y0 y1 y2 y3,LeO (impl_ExprOk.l0 k y0 y1 y2 y3) (impl_ExprOk.l0 (k + 1) y0 y1 y2 y3))
 |0 => fun _ _ _ _ r h => by simp [impl_ExprOk.l0] at h
 |k + 1 => by
  have ih0:=impl_ExprOk.mono_l k
  ·intro y0 y1 y2 y3
   unfold impl_ExprOk.l0
   repeat' first
   |(with_reducible exact ih0 _ _ _ _)
   |(with_reducible exact impl_exNodeOk.mono _ _ _ _ _ _)
   |(with_reducible exact LeO.refl _)
   |(with_reducible exact LeO.none _)
   |(with_reducible refine LeO.ite ?_ ?_)
   |(with_reducible refine LeO.bind ?_ (fun _ => ?_))
theorem impl_ExprOk.mono : ∀ a0 k,LeO (impl_ExprOk.f k a0) (impl_ExprOk.f (k + 1) a0):=by
 intro a0 k
 have ih0:=impl_ExprOk.mono_l k
 unfold impl_ExprOk.f
 repeat' first
   |(with_reducible exact ih0 _ _ _ _)
   |(with_reducible exact impl_exNodeOk.mono _ _ _ _ _ _)
   |(with_reducible exact LeO.refl _)
   |(with_reducible exact LeO.none _)
   |(with_reducible refine LeO.ite ?_ ?_)
   |(with_reducible refine LeO.bind ?_ (fun _ => ?_))
set_option maxHeartbeats 8000000 in
set_option maxRecDepth 100000 in
theorem impl_ExprOk.calls (k : Nat) (A0_0 : Option Addr) (c0_0 : Nat) (l0_0 : List (S34)) (r : Bool) (w : World) (hr0_0 : Kd.C k34 w A0_0 l0_0.length l0_0) (hc0_0 : l0_0.length ≤ c0_0) (h : impl_ExprOk.f k l0_0 = some r) :
  Calls Try.prog 14 #[.agg #[.slice A0_0 l0_0.length c0_0]] w fun e w' => e = .returned (.bool r) ∧ Below w.heap.size w w':=by
 have hu28:=Try.underlying28
 have hu34:=Try.underlying34
 have HR0_0:=zm_ hr0_0
 have HC0_0:=zm_ hc0_0
 clear hr0_0 hc0_0
 have HB:=zm_ (Below.refl w.heap.size w)
 have H : (impl_ExprOk.l0 k l0_0 (l0_0.length : Int) 0 l0_0) = some r:=h
 clear h
 have H':=zm_ H
 clear H
 go_enter Try.func14,Try.ntmps14
 go_wp2_with (first|((with_reducible refine gate_dst (N:=1) rfl ?_);refine box_event ?hg (N:=1) ?hd (cs:=#[.slice A0_0 l0_0.length c0_0]) (t:=28) ?hr ?_;(case hd => rfl);(case hg => rfl);(case hr => first|(go_simp;done)|(go_simp;rfl));intro gb153 hg w2 hbox hb;have n0_:=zm_ (below_step zB_ hb);have n1_:=zm_ (hbox);have n2_:=zm_ ((by rw [hg];exact (below_size zB_) : w.heap.size ≤ gb153));have n3_:=zm_ ((by rw [hg];exact (below_size zB_) : w.heap.size ≤ gb153));clear HB;have HB:=n0_;have BK153:=n1_;have GW153:=n2_;have GE153:=n3_;clear n0_ n1_ n2_ n3_;clear hb hbox hg;have hcz3_0 : w2.cell? ⟨gb153,0,none⟩ = some (.slice A0_0 l0_0.length c0_0):=(zc_ BK153.out 0).trans rfl;have hfz3_0:=zf_ BK153.out 0))
 go_loopg [8] k (fun kq v8 w' => ∃ (x8_1 : Int),v8 = .int .i64 x8_1 ∧ Aside0 (impl_ExprOk.l0 kq l0_0 (l0_0.length : Int) x8_1 l0_0 = some r) ∧ Aside0 (kq ≤ k) ∧ Aside0 (w'.heap[gb153]? = some (.cells #[(.slice A0_0 l0_0.length c0_0)] 28 (0,0))) ∧ Aside0 (Below w.heap.size w w'))
 case atStart => exact ⟨(0),zV_,H',⟨Nat.le_refl _⟩,⟨by (with_reducible repeat first|refine zl_ ?_ _|refine zr_ ?_|refine zk_ ?_ _);exact BK153.out⟩,⟨by repeat (first|(with_reducible first|exact HB.out|apply za_|apply zn_|apply zd_|refine zs_ ?_ GE153.out)|exact HB.out)⟩⟩
 case round =>
  clear H'
  try clear c1
  try clear p2
  try clear hcz3_0
  try clear hfz3_0
  obtain ⟨x8_1,rfl,HA,HK1,BK153,HB⟩:=hrel
  cases gk with
  |zero => exact absurd HA.out (by simp [impl_ExprOk.l0])
  |succ k1 =>
   have H:=HA.out
   clear HA
   simp only [impl_ExprOk.l0] at H
   by_cases c4 : x8_1 < (l0_0.length : Int)
   ·rw [if_pos c4] at H
    have c4b0 : decide (x8_1 < (l0_0.length : Int)) = true:=decide_eq_true c4
    clear c4
    by_cases c5 : 0 ≤ x8_1
    ·rw [if_pos c5] at H
     have c5b0 : decide (0 ≤ x8_1) = true:=decide_eq_true c5
     clear c5
     by_cases c6 : x8_1 < (l0_0.length : Int)
     ·rw [if_pos c6] at H
      have c6b0 : decide (x8_1 < (l0_0.length : Int)) = true:=decide_eq_true c6
      clear c6
      replace H:=Option.bind_eq_some_iff.mp H
      obtain ⟨t156,A70,H⟩:=H
      replace H : (if t156 = true then (impl_ExprOk.l0 k1 l0_0 (l0_0.length : Int) (wrap64 (x8_1 + 1)) l0_0) else (some false)) = some r:=H
      have A7:=zm_ A70
      clear A70
      by_cases c8 : t156 = true
      ·subst c8
       have H1 : (impl_ExprOk.l0 k1 l0_0 (l0_0.length : Int) (wrap64 (x8_1 + 1)) l0_0) = some r:=by rw [if_pos rfl] at H;exact H
       clear H
       have H:=H1
       clear H1
       have H':=zm_ H
       clear H
       have p154 : 0 ≤ (x8_1 : Int):=zo_
       have q154 : x8_1 < (l0_0.length : Int):=zo_
       obtain ⟨ad154,A154_3,c154_3,e154,hx154_0,hx154_1,hx154_2,hx154_3,hl154_3,hi154_3⟩:=at_T34 HR0_0.out x8_1 p154 q154
       cases e154
       replace hx154_0:=(HB.out.cell (zb_ w _ hx154_0)).trans hx154_0
       replace hx154_1:=(HB.out.cell (zb_ w _ hx154_1)).trans hx154_1
       replace hx154_2:=(HB.out.cell (zb_ w _ hx154_2)).trans hx154_2
       replace hx154_3:=(HB.out.cell (zb_ w _ hx154_3)).trans hx154_3
       have HR154_3:=zm_ hi154_3
       have HC154_3:=zm_ hl154_3
       clear hi154_3 hl154_3
       replace p154:=eq_true p154
       replace q154:=eq_true q154
       go_wp2_with (first|((with_reducible refine gate_dst (N:=4) rfl ?_);refine box_event ?hg (N:=4) ?hd (cs:=#[.int .i64 0,.int .i64 0,.string (⟨#[]⟩ : ByteArray),.slice none 0 0]) (t:=34) ?hr ?_;(case hd => rfl);(case hg => rfl);(case hr => first|(go_simp;done)|(go_simp;rfl));intro gb155 hg w9 hbox hb;have n0_:=zm_ (blk_below (g:=gb153) (o:=.cells #[.slice (some ad154) l0_0.length c0_0] 28 (0,0)) zt2_4 hb);have n1_:=zm_ (below_step zt2_2 hb);have n2_:=zm_ (hbox);have n3_:=zm_ ((by rw [hg];exact (below_size zt2_2) : w.heap.size ≤ gb155));have n4_:=zm_ ((by rw [hg];exact (below_size zt2_2) : w.heap.size ≤ gb155));have n5_:=zm_ ((by rw [hg];exact Nat.ne_of_lt (blk_lt (g:=gb153) (o:=.cells #[.slice (some ad154) l0_0.length c0_0] 28 (0,0)) zt2_4) : gb153 ≠ gb155));have n6_:=zm_ ((by rw [hg];exact Nat.ne_of_gt (blk_lt (g:=gb153) (o:=.cells #[.slice (some ad154) l0_0.length c0_0] 28 (0,0)) zt2_4) : gb155 ≠ gb153));clear BK153;clear HB;have BK153:=n0_;have HB:=n1_;have BK155:=n2_;have GW155:=n3_;have GE155:=n4_;have NB153_155:=n5_;have NB155_153:=n6_;clear n0_ n1_ n2_ n3_ n4_ n5_ n6_;clear hb hbox hg;have hnb10:=NB155_153.out;have hnc10:=NB153_155.out;have hcz11_0 : w9.cell? ⟨gb155,0,none⟩ = some (.int .i64 0):=(zc_ BK155.out 0).trans rfl;have hcz11_1 : w9.cell? ⟨gb155,1,none⟩ = some (.int .i64 0):=(zc_ BK155.out 1).trans rfl;have hcz11_2 : w9.cell? ⟨gb155,2,none⟩ = some (.string (⟨#[]⟩ : ByteArray)):=(zc_ BK155.out 2).trans rfl;have hcz11_3 : w9.cell? ⟨gb155,3,none⟩ = some (.slice none 0 0):=(zc_ BK155.out 3).trans rfl;have hfz11_0:=zf_ BK155.out 0;have hfz11_1:=zf_ BK155.out 1;have hfz11_2:=zf_ BK155.out 2;have hfz11_3:=zf_ BK155.out 3)|((with_reducible refine gate_callee (f:=48) rfl ?_);refine goesL_ (some 15) rfl rfl Try.func48 (by kernel_rfl) rfl #[.agg #[.int .i64 ((rd_T34 l0_0 x8_1).f0),.int .i64 ((rd_T34 l0_0 x8_1).f1),.string ((rd_T34 l0_0 x8_1).f2),.slice A154_3 ((rd_T34 l0_0 x8_1).f3).length c154_3],.int .i64 x8_1] rfl zq_ ?_;(with_reducible refine (impl_exNodeOk.calls k1 ((rd_T34 l0_0 x8_1).f0) ((rd_T34 l0_0 x8_1).f1) ((rd_T34 l0_0 x8_1).f2) _ _ ((rd_T34 l0_0 x8_1).f3) x8_1 true _ ?side1 ?side2 A7.out).mono ?_);(case side1 => exact Kd.C_below HR154_3.out zt2_5);(case side2 => exact HC154_3.out);rintro e w12 ⟨rfl,hb⟩;refine ⟨_,rfl,?_⟩;have n0_:=zm_ (blk_below (g:=gb153) (o:=.cells #[.slice (some ad154) l0_0.length c0_0] 28 (0,0)) zt2_3 hb);have n1_:=zm_ (blk_below (g:=gb155) (o:=.cells #[.int .i64 ((rd_T34 l0_0 x8_1).f0),.int .i64 ((rd_T34 l0_0 x8_1).f1),.string ((rd_T34 l0_0 x8_1).f2),.slice A154_3 ((rd_T34 l0_0 x8_1).f3).length c154_3] 34 (0,0)) zt2_1 hb);have n2_:=zm_ (below_step zt2_5 hb);clear BK153;clear BK155;clear HB;have BK153:=n0_;have BK155:=n1_;have HB:=n2_;clear n0_ n1_ n2_;(try clear hb)))
       go_roundg k1
       case measure => have:=HK1.out;omega
       case rel => exact ⟨(wrap64 (x8_1 + 1)),zV_,H',⟨by have:=HK1.out;omega⟩,⟨by (with_reducible repeat first|refine zl_ ?_ _|refine zr_ ?_|refine zk_ ?_ _);exact BK153.out⟩,⟨by repeat (first|(with_reducible first|exact HB.out|apply za_|apply zn_|apply zd_|refine zs_ ?_ GE153.out|refine zs_ ?_ GE155.out)|exact HB.out)⟩⟩
      ·replace c8:=Bool.eq_false_iff.mpr c8
       subst c8
       have H1 : (some false) = some r:=by rw [if_neg (show ¬ (false = true) by decide)] at H;exact H
       clear H
       have H:=H1
       clear H1
       obtain rfl:=Option.some.inj H
       have p154 : 0 ≤ (x8_1 : Int):=zo_
       have q154 : x8_1 < (l0_0.length : Int):=zo_
       obtain ⟨ad154,A154_3,c154_3,e154,hx154_0,hx154_1,hx154_2,hx154_3,hl154_3,hi154_3⟩:=at_T34 HR0_0.out x8_1 p154 q154
       cases e154
       replace hx154_0:=(HB.out.cell (zb_ w _ hx154_0)).trans hx154_0
       replace hx154_1:=(HB.out.cell (zb_ w _ hx154_1)).trans hx154_1
       replace hx154_2:=(HB.out.cell (zb_ w _ hx154_2)).trans hx154_2
       replace hx154_3:=(HB.out.cell (zb_ w _ hx154_3)).trans hx154_3
       have HR154_3:=zm_ hi154_3
       have HC154_3:=zm_ hl154_3
       clear hi154_3 hl154_3
       replace p154:=eq_true p154
       replace q154:=eq_true q154
       go_wp2_with (first|((with_reducible refine gate_dst (N:=4) rfl ?_);refine box_event ?hg (N:=4) ?hd (cs:=#[.int .i64 0,.int .i64 0,.string (⟨#[]⟩ : ByteArray),.slice none 0 0]) (t:=34) ?hr ?_;(case hd => rfl);(case hg => rfl);(case hr => first|(go_simp;done)|(go_simp;rfl));intro gb155 hg w13 hbox hb;have n0_:=zm_ (blk_below (g:=gb153) (o:=.cells #[.slice (some ad154) l0_0.length c0_0] 28 (0,0)) zt2_4 hb);have n1_:=zm_ (below_step zt2_2 hb);have n2_:=zm_ (hbox);have n3_:=zm_ ((by rw [hg];exact (below_size zt2_2) : w.heap.size ≤ gb155));have n4_:=zm_ ((by rw [hg];exact (below_size zt2_2) : w.heap.size ≤ gb155));have n5_:=zm_ ((by rw [hg];exact Nat.ne_of_lt (blk_lt (g:=gb153) (o:=.cells #[.slice (some ad154) l0_0.length c0_0] 28 (0,0)) zt2_4) : gb153 ≠ gb155));have n6_:=zm_ ((by rw [hg];exact Nat.ne_of_gt (blk_lt (g:=gb153) (o:=.cells #[.slice (some ad154) l0_0.length c0_0] 28 (0,0)) zt2_4) : gb155 ≠ gb153));clear BK153;clear HB;have BK153:=n0_;have HB:=n1_;have BK155:=n2_;have GW155:=n3_;have GE155:=n4_;have NB153_155:=n5_;have NB155_153:=n6_;clear n0_ n1_ n2_ n3_ n4_ n5_ n6_;clear hb hbox hg;have hnb14:=NB155_153.out;have hnc14:=NB153_155.out;have hcz15_0 : w13.cell? ⟨gb155,0,none⟩ = some (.int .i64 0):=(zc_ BK155.out 0).trans rfl;have hcz15_1 : w13.cell? ⟨gb155,1,none⟩ = some (.int .i64 0):=(zc_ BK155.out 1).trans rfl;have hcz15_2 : w13.cell? ⟨gb155,2,none⟩ = some (.string (⟨#[]⟩ : ByteArray)):=(zc_ BK155.out 2).trans rfl;have hcz15_3 : w13.cell? ⟨gb155,3,none⟩ = some (.slice none 0 0):=(zc_ BK155.out 3).trans rfl;have hfz15_0:=zf_ BK155.out 0;have hfz15_1:=zf_ BK155.out 1;have hfz15_2:=zf_ BK155.out 2;have hfz15_3:=zf_ BK155.out 3)|((with_reducible refine gate_callee (f:=48) rfl ?_);refine goesL_ (some 15) rfl rfl Try.func48 (by kernel_rfl) rfl #[.agg #[.int .i64 ((rd_T34 l0_0 x8_1).f0),.int .i64 ((rd_T34 l0_0 x8_1).f1),.string ((rd_T34 l0_0 x8_1).f2),.slice A154_3 ((rd_T34 l0_0 x8_1).f3).length c154_3],.int .i64 x8_1] rfl zq_ ?_;(with_reducible refine (impl_exNodeOk.calls k1 ((rd_T34 l0_0 x8_1).f0) ((rd_T34 l0_0 x8_1).f1) ((rd_T34 l0_0 x8_1).f2) _ _ ((rd_T34 l0_0 x8_1).f3) x8_1 false _ ?side1 ?side2 A7.out).mono ?_);(case side1 => exact Kd.C_below HR154_3.out zt2_5);(case side2 => exact HC154_3.out);rintro e w16 ⟨rfl,hb⟩;refine ⟨_,rfl,?_⟩;have n0_:=zm_ (blk_below (g:=gb153) (o:=.cells #[.slice (some ad154) l0_0.length c0_0] 28 (0,0)) zt2_3 hb);have n1_:=zm_ (blk_below (g:=gb155) (o:=.cells #[.int .i64 ((rd_T34 l0_0 x8_1).f0),.int .i64 ((rd_T34 l0_0 x8_1).f1),.string ((rd_T34 l0_0 x8_1).f2),.slice A154_3 ((rd_T34 l0_0 x8_1).f3).length c154_3] 34 (0,0)) zt2_1 hb);have n2_:=zm_ (below_step zt2_5 hb);clear BK153;clear BK155;clear HB;have BK153:=n0_;have BK155:=n1_;have HB:=n2_;clear n0_ n1_ n2_;(try clear hb)))
       go_ret
       exact ⟨zE_,by repeat (first|(with_reducible first|exact HB.out|apply za_|apply zn_|apply zd_|refine zs_ ?_ GE153.out|refine zs_ ?_ GE155.out)|exact HB.out)⟩
     ·rw [if_neg c6] at H
      exact absurd H (by simp)
    ·rw [if_neg c5] at H
     exact absurd H (by simp)
   ·rw [if_neg c4] at H
    have c4b0 : decide (x8_1 < (l0_0.length : Int)) = false:=decide_eq_false c4
    clear c4
    replace H:=Option.bind_eq_some_iff.mp H
    obtain ⟨t157,A170,H⟩:=H
    replace H : (some t157) = some r:=H
    have A17:=zm_ A170
    clear A170
    obtain rfl:=Option.some.inj H
    have hcz18_0 : wr.cell? ⟨gb153,0,none⟩ = some (.slice A0_0 l0_0.length c0_0):=(zc_ BK153.out 0).trans rfl
    have hfz18_0:=zf_ BK153.out 0
    go_wp2_with (first|((with_reducible refine gate_callee (f:=49) rfl ?_);refine goesL_ (some 21) rfl rfl Try.func49 (by kernel_rfl) rfl #[.int .i64 (l0_0.length : Int),.int .i64 1,.int .i64 20] rfl zq_ ?_;(with_reducible refine (impl_within.calls (l0_0.length : Int) 1 20 t157 _ A17.out).mono ?_);rintro e w' ⟨rfl,⟨nd,rfl⟩⟩;refine ⟨_,rfl,?_⟩))
    go_ret
    exact ⟨zE_,by repeat (first|(with_reducible first|exact HB.out|apply za_|apply zn_|apply zd_|refine zs_ ?_ GE153.out)|exact HB.out)⟩

end Go.Proofs.Ytnmhggdaccbbfaa.MFnExprs
