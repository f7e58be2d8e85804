import Derived.Test.YtnmhggdaccbbfaaMFnExprWrongx0
import Derived.Test.YtnmhggdaccbbfaaMFnExprWrongx1
import Derived.Test.YtnmhggdaccbbfaaMFnExprWrongx6
namespace Go.Proofs.Ytnmhggdaccbbfaa.MFnExprWrong
open Go.RowKit Go.Proofs.YtnmhggdaccbbfaaW.PrintWords Go.Proofs.YtnmhggdaccbbfaaW.PrintLast Go.Proofs.YtnmhggdaccbbfaaW.PrintMore
attribute [local go_sem] max2_int min2_int max_two min_two max_three min_three max_four min_four
set_option linter.unusedVariables false
set_option linter.unusedSimpArgs false
theorem zt7_1 {p : Prop} (h : p := by (with_reducible repeat first|refine zl_ ?_ _|refine zr_ ?_|refine zk_ ?_ _);exact BK280.out) : p := h

def spec_DrawExprOk.f (k : Nat) (l0 : List Int) : Option ((List (S34))):=(spec_l01New.f k l0).bind fun bt281 => ((spec_l04Any.f bt281.1 bt281.2.1 bt281.2.2).bind fun bt285 => (some bt285.1))
theorem spec_DrawExprOk.mono : ∀ a0 k,LeO (spec_DrawExprOk.f k a0) (spec_DrawExprOk.f (k + 1) a0):=by
 intro a0 k
 unfold spec_DrawExprOk.f
 repeat' first
   |(with_reducible exact spec_l01New.mono _ _)
   |(with_reducible exact LeO.refl _)
   |(with_reducible exact LeO.none _)
   |(with_reducible refine LeO.ite ?_ ?_)
   |(with_reducible refine LeO.bind ?_ (fun _ => ?_))
set_option maxHeartbeats 8000000 in
set_option maxRecDepth 100000 in
theorem spec_DrawExprOk.calls (k : Nat) (A0 : Option Addr) (c0 : Nat) (l0 : List Int) (r : List (S34)) (w : World) (hr0 : Kd.C (Kd.int .u8) w A0 l0.length l0) (hc0 : l0.length ≤ c0) (h : spec_DrawExprOk.f k l0 = some r) :
  Calls Try.prog 13 #[.slice A0 l0.length c0] w fun e w' => ∃ v0_ : Value,e = .returned (.agg #[v0_]) ∧ Kd.N k34 34 w' w.heap.size (fun k_ => (w.heap.size ≤ k_)) v0_ r ∧ Below w.heap.size w w':=by
 have hu28:=Try.underlying28
 have HR0:=zm_ hr0
 have HC0:=zm_ hc0
 clear hr0 hc0
 have HB:=zm_ (Below.refl w.heap.size w)
 have H : ((spec_l01New.f k l0).bind fun bt281 => ((spec_l04Any.f bt281.1 bt281.2.1 bt281.2.2).bind fun bt285 => (some bt285.1))) = some r:=h
 clear h
 replace H:=Option.bind_eq_some_iff.mp H
 obtain ⟨⟨t281,t282,t283⟩,A20,H⟩:=H
 replace H : ((spec_l04Any.f t281 t282 t283).bind fun bt285 => (some bt285.1)) = some r:=H
 have A2:=zm_ A20
 clear A20
 replace H:=Option.bind_eq_some_iff.mp H
 obtain ⟨⟨t285,t288,t289⟩,A30,H⟩:=H
 replace H : (some t285) = some r:=H
 have A3:=zm_ A30
 clear A30
 obtain rfl:=Option.some.inj H
 go_enter Try.func13,Try.ntmps13
 go_wp2_with (first|((with_reducible refine gate_dst (N:=2) rfl ?_);refine box_event ?hg (N:=2) ?hd (cs:=#[.slice none 0 0]) (t:=28) ?hr ?_;(case hd => rfl);(case hg => rfl);(case hr => first|(go_simp;done)|(go_simp;rfl));intro gb280 hg w4 hbox hb;have n0_:=zm_ (below_step zB_ hb);have n1_:=zm_ (hbox);have n2_:=zm_ ((by rw [hg];exact (below_size zB_) : w.heap.size ≤ gb280));have n3_:=zm_ ((by rw [hg];exact (below_size zB_) : w.heap.size ≤ gb280));clear HB;have HB:=n0_;have BK280:=n1_;have GW280:=n2_;have GE280:=n3_;clear n0_ n1_ n2_ n3_;clear hb hbox hg)|((with_reducible refine gate_callee (f:=41) rfl ?_);refine goesL_ (some 4) rfl rfl Try.func41 (by kernel_rfl) rfl #[.slice A0 l0.length c0] rfl zq_ ?_;(with_reducible refine (spec_l01New.calls k _ _ l0 t281 t282 t283 w _ ?side1 ?side2 ?side3 A2.out).mono ?_);(case side1 => repeat (first|(with_reducible first|exact HB.out|apply za_|apply zn_|apply zd_|refine zs_ ?_ GE280.out)|exact HB.out));(case side2 => exact HR0.out);(case side3 => exact HC0.out);rintro e w5 ⟨g284,rfl,hi,hb,hb2⟩;refine ⟨_,rfl,?_⟩;have n0_:=zm_ (blk_below (g:=gb280) (o:=.cells #[.slice none 0 0] 28 (0,0)) zt7_1 hb2);have n1_:=zm_ (hb);have n2_:=zm_ (hi);have n3_:=zm_ (IsS109.ne_blk hi (blk_below (g:=gb280) (o:=.cells #[.slice none 0 0] 28 (0,0)) zt7_1 hb2) (by decide));have n4_:=zm_ (Ne.symm (IsS109.ne_blk hi (blk_below (g:=gb280) (o:=.cells #[.slice none 0 0] 28 (0,0)) zt7_1 hb2) (by decide)));clear BK280;clear HB;have BK280:=n0_;have HB:=n1_;have HI284:=n2_;have NB284_280:=n3_;have NB280_284:=n4_;clear n0_ n1_ n2_ n3_ n4_;(try clear hb);(try clear hb2);(try clear hk);(try clear hi))|((with_reducible refine gate_callee (f:=47) rfl ?_);refine goesL_ (some 5) rfl rfl Try.func47 (by kernel_rfl) rfl #[.pointer (some ⟨g284,0,none⟩)] rfl zq_ ?_;(with_reducible refine (spec_l04Any.calls g284 t281 t282 t283 t285 t288 t289 w _ ?side1 ?side2 A3.out).mono ?_);(case side1 => repeat (first|(with_reducible first|exact HI284.out|apply IsS109.alloc|apply IsS109.drewN|apply IsS109.drew|apply IsS109.set_1|apply IsS109.set_2|refine IsS109.far ?_ NB284_280.out _)|exact HI284.out));(case side2 => repeat (first|(with_reducible first|exact HB.out|apply za_|apply zn_|apply zd_|refine zs_ ?_ (IsS109.ge HI284.out)|refine zs_ ?_ GE280.out)|exact HB.out));rintro e w6 ⟨v286,rfl,ho0,hi,hb,hk⟩;refine ⟨_,rfl,?_⟩;have n0_:=zm_ (KeepBut.blk hk (g':=gb280) (o:=.cells #[.slice none 0 0] 28 (0,0)) zt7_1 NB280_284.out (by simp));have n1_:=zm_ (Kd.N_lower (Kd.N_mono (ok':=fun k_ => (w.heap.size ≤ k_) ∧ k_ ≠ gb280 ∧ k_ ≠ g284) ho0 (fun k_ hk_ => ⟨(Nat.le_trans (below_size (by repeat (first|(with_reducible first|exact HB.out|apply za_|apply zn_|apply zd_|refine zs_ ?_ (IsS109.ge HI284.out)|refine zs_ ?_ GE280.out)|exact HB.out))) hk_),(Kd.freshB (g:=gb280) (o:=.cells #[.slice none 0 0] 28 (0,0)) zt7_1 k_ hk_),(IsS109.fresh (by repeat (first|(with_reducible first|exact HI284.out|apply IsS109.alloc|apply IsS109.drewN|apply IsS109.drew|apply IsS109.set_1|apply IsS109.set_2|refine IsS109.far ?_ NB284_280.out _)|exact HI284.out)) k_ hk_)⟩)) (below_size (by repeat (first|(with_reducible first|exact HB.out|apply za_|apply zn_|apply zd_|refine zs_ ?_ (IsS109.ge HI284.out)|refine zs_ ?_ GE280.out)|exact HB.out))));have n2_:=zm_ (hb);have n3_:=zm_ (hi);clear BK280;clear HB;clear HI284;have BK280:=n0_;have HO287:=n1_;have HB:=n2_;have HI284:=n3_;clear n0_ n1_ n2_ n3_;(try clear hb);(try clear hb2);(try clear hk);(try clear hi);(try clear ho0);obtain ⟨Ao7,co7,eo7⟩:=Kd.N_slice HO287.out;subst eo7;have hnb8:=NB280_284.out;have hnc8:=NB284_280.out;have hcz9_0 : w6.cell? ⟨gb280,0,none⟩ = some (.slice none 0 0):=(zc_ BK280.out 0).trans rfl;have hfz9_0:=zf_ BK280.out 0))
 refine bodyPost_ret (results_cell_row rfl _ _ gb280 28 #[.slice Ao7 t285.length co7] (0,0) _ rfl (by (with_reducible repeat first|refine zl_ ?_ _|refine zr_ ?_|refine zk_ ?_ _);refine blk_put (cs:=#[.slice none 0 0]) ?_ 0 _ rfl;(with_reducible repeat first|refine zl_ ?_ _|refine zr_ ?_|refine zk_ ?_ _);exact BK280.out) Try.underlying28 rfl (by kernel_rfl)) rfl ?_
 exact ⟨_,by first|rfl|(simp [errW_none,errW_some] <;> rfl)|(simp [*,errW_none,errW_some] <;> rfl),by (with_reducible repeat (first|apply Kd.N_alloc|apply Kd.N_drewN|apply Kd.N_drew));exact Kd.N_mono (Kd.N_far (p:=⟨gb280,0,none⟩) (Kd.N_mono HO287.out (fun k_ hk => (⟨hk,hk.2.1⟩ : _ ∧ k_ ≠ gb280))) (fun _ hk => hk.2) (.slice Ao7 t285.length co7)) (fun _ hk => hk.1.1),by repeat (first|(with_reducible first|exact HB.out|apply za_|apply zn_|apply zd_|refine zs_ ?_ (IsS109.ge HI284.out)|refine zs_ ?_ GE280.out)|exact HB.out)⟩

def spec_l01In.f (a0 : Int) (a1 : Int) (a2 : Int) : Option (Bool):=if a0 ≥ a1 then (some (decide (a0 ≤ a2))) else (some false)
set_option maxHeartbeats 8000000 in
set_option maxRecDepth 100000 in
theorem spec_l01In.calls (a0 : Int) (a1 : Int) (a2 : Int) (r : Bool) (w : World) (h : spec_l01In.f a0 a1 a2 = some r) :
  Calls Try.prog 50 #[.int .i64 a0,.int .i64 a1,.int .i64 a2] w fun e w' => e = .returned (.bool r) ∧ Drawn0 w w':=by
 have H : (if a0 ≥ a1 then (some (decide (a0 ≤ a2))) else (some false)) = some r:=h
 clear h
 by_cases c4 : a0 ≥ a1
 ·rw [if_pos c4] at H
  have c4b0 : decide (a1 ≤ a0) = true:=decide_eq_true c4
  clear c4
  obtain rfl:=Option.some.inj H
  go_enter Try.func50,Try.ntmps50
  go_wp2
  go_ret
  exact ⟨by first|rfl|(simp;done)|(simp [*];done),by repeat (first|exact Drawn0.refl _|apply Drawn0.step)⟩
 ·rw [if_neg c4] at H
  have c4b0 : decide (a1 ≤ a0) = false:=decide_eq_false c4
  clear c4
  obtain rfl:=Option.some.inj H
  go_enter Try.func50,Try.ntmps50
  go_wp2
  go_ret
  exact ⟨by first|rfl|(simp;done)|(simp [*];done),by repeat (first|exact Drawn0.refl _|apply Drawn0.step)⟩

def spec_VarName.l0 : Nat → ByteArray → Int → Option (Bool)
 |0,_,_ => none
 |k + 1,x0,x3 => if x3 < (x0.size : Int) then (if 0 ≤ x3 then (if (bt x0 x3) < 97 then (some false) else (if (bt x0 x3) > 122 then (some false) else (spec_VarName.l0 k x0 (wrap64 (x3 + 1))))) else (none)) else ((spec_l01In.f (x0.size : Int) 1 4).bind fun t290 => (some t290))
def spec_VarName.f (k : Nat) (a0 : ByteArray) : Option (Bool):=spec_VarName.l0 k a0 0
theorem spec_VarName.mono_l : ∀ k,(∀ y0 y1,LeO (spec_VarName.l0 k y0 y1) (spec_VarName.l0 (k + 1) y0 y1))
 |0 => fun _ _ r h => by simp [spec_VarName.l0] at h
 |k + 1 => by
  have ih0:=spec_VarName.mono_l k
  ·intro y0 y1
   unfold spec_VarName.l0
   repeat' first
   |(with_reducible exact ih0 _ _)
   |(with_reducible exact LeO.refl _)
   |(with_reducible exact LeO.none _)
   |(with_reducible refine LeO.ite ?_ ?_)
   |(with_reducible refine LeO.bind ?_ (fun _ => ?_))
theorem spec_VarName.mono : ∀ a0 k,LeO (spec_VarName.f k a0) (spec_VarName.f (k + 1) a0):=by
 intro a0 k
 have ih0:=spec_VarName.mono_l k
 unfold spec_VarName.f
 repeat' first
   |(with_reducible exact ih0 _ _)
   |(with_reducible exact LeO.refl _)
   |(with_reducible exact LeO.none _)
   |(with_reducible refine LeO.ite ?_ ?_)
   |(with_reducible refine LeO.bind ?_ (fun _ => ?_))
set_option maxHeartbeats 8000000 in
set_option maxRecDepth 100000 in
theorem spec_VarName.calls (k : Nat) (a0 : ByteArray) (r : Bool) (w : World) (h : spec_VarName.f k a0 = some r) :
  Calls Try.prog 52 #[.string a0] w fun e w' => e = .returned (.bool r) ∧ Drawn0 w w':=by
 have H : (spec_VarName.l0 k a0 0) = some r:=h
 clear h
 have H':=zm_ H
 clear H
 go_enter Try.func52,Try.ntmps52
 go_wp2
 go_loopg [3] k (fun kq v3 w' => ∃ (x3_1 : Int),v3 = .int .i64 x3_1 ∧ Aside0 (spec_VarName.l0 kq a0 x3_1 = some r) ∧ Aside0 (kq ≤ k) ∧ Drawn0 w w')
 case atStart => exact ⟨(0),zV_,H',⟨Nat.le_refl _⟩,by repeat (first|exact Drawn0.refl _|apply Drawn0.step)⟩
 case round =>
  clear H'
  obtain ⟨x3_1,rfl,HA,HK1,⟨m1,rfl⟩⟩:=hrel
  cases gk with
  |zero => exact absurd HA.out (by simp [spec_VarName.l0])
  |succ k1 =>
   have H:=HA.out
   clear HA
   simp only [spec_VarName.l0] at H
   by_cases c2 : x3_1 < (a0.size : Int)
   ·rw [if_pos c2] at H
    have c2b0 : decide (x3_1 < (a0.size : Int)) = true:=decide_eq_true c2
    clear c2
    by_cases c3 : 0 ≤ x3_1
    ·rw [if_pos c3] at H
     have c3b0 : decide (0 ≤ x3_1) = true:=decide_eq_true c3
     clear c3
     by_cases c5 : (bt a0 x3_1) < 97
     ·rw [if_pos c5] at H
      have c5b0 : decide ((bt a0 x3_1) < 97) = true:=decide_eq_true c5
      clear c5
      obtain rfl:=Option.some.inj H
      have p4 : 0 ≤ (x3_1 : Int):=zo_
      have q4 : x3_1 < (a0.size : Int):=zo_
      have hx4:=bt_at a0 x3_1
      replace p4:=eq_true p4
      replace q4:=eq_true q4
      go_wp2
      go_ret
      exact ⟨by first|rfl|(simp;done)|(simp [*];done),by repeat (first|exact Drawn0.refl _|apply Drawn0.step)⟩
     ·rw [if_neg c5] at H
      have c5b0 : decide ((bt a0 x3_1) < 97) = false:=decide_eq_false c5
      clear c5
      by_cases c7 : (bt a0 x3_1) > 122
      ·rw [if_pos c7] at H
       have c7b0 : decide (122 < (bt a0 x3_1)) = true:=decide_eq_true c7
       clear c7
       obtain rfl:=Option.some.inj H
       have p4 : 0 ≤ (x3_1 : Int):=zo_
       have q4 : x3_1 < (a0.size : Int):=zo_
       have hx4:=bt_at a0 x3_1
       replace p4:=eq_true p4
       replace q4:=eq_true q4
       have p6 : 0 ≤ (x3_1 : Int):=zo_
       have q6 : x3_1 < (a0.size : Int):=zo_
       have hx6:=bt_at a0 x3_1
       replace p6:=eq_true p6
       replace q6:=eq_true q6
       go_wp2
       go_ret
       exact ⟨by first|rfl|(simp;done)|(simp [*];done),by repeat (first|exact Drawn0.refl _|apply Drawn0.step)⟩
      ·rw [if_neg c7] at H
       have c7b0 : decide (122 < (bt a0 x3_1)) = false:=decide_eq_false c7
       clear c7
       have H':=zm_ H
       clear H
       have p4 : 0 ≤ (x3_1 : Int):=zo_
       have q4 : x3_1 < (a0.size : Int):=zo_
       have hx4:=bt_at a0 x3_1
       replace p4:=eq_true p4
       replace q4:=eq_true q4
       have p6 : 0 ≤ (x3_1 : Int):=zo_
       have q6 : x3_1 < (a0.size : Int):=zo_
       have hx6:=bt_at a0 x3_1
       replace p6:=eq_true p6
       replace q6:=eq_true q6
       go_wp2
       go_roundg k1
       case measure => have:=HK1.out;omega
       case rel => exact ⟨(wrap64 (x3_1 + 1)),zV_,H',⟨by have:=HK1.out;omega⟩,by repeat (first|exact Drawn0.refl _|apply Drawn0.step)⟩
    ·rw [if_neg c3] at H
     exact absurd H (by simp)
   ·rw [if_neg c2] at H
    have c2b0 : decide (x3_1 < (a0.size : Int)) = false:=decide_eq_false c2
    clear c2
    replace H:=Option.bind_eq_some_iff.mp H
    obtain ⟨t290,A80,H⟩:=H
    replace H : (some t290) = some r:=H
    have A8:=zm_ A80
    clear A80
    obtain rfl:=Option.some.inj H
    go_wp2_with (first|((with_reducible refine gate_callee (f:=50) rfl ?_);refine goesL_ (some 22) rfl rfl Try.func50 (by kernel_rfl) rfl #[.int .i64 (a0.size : Int),.int .i64 1,.int .i64 4] rfl zq_ ?_;(with_reducible refine (spec_l01In.calls (a0.size : Int) 1 4 t290 _ A8.out).mono ?_);rintro e w' ⟨rfl,⟨nd,rfl⟩⟩;refine ⟨_,rfl,?_⟩))
    go_ret
    exact ⟨by first|rfl|(simp;done)|(simp [*];done),by repeat (first|exact Drawn0.refl _|apply Drawn0.step)⟩

end Go.Proofs.Ytnmhggdaccbbfaa.MFnExprWrong
