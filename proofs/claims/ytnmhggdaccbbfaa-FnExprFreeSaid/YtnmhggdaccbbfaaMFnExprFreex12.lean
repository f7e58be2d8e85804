import Derived.Test.YtnmhggdaccbbfaaMFnExprFreex0
import Derived.Test.YtnmhggdaccbbfaaMFnExprFreex4
import Derived.Test.YtnmhggdaccbbfaaMFnExprFreex11
namespace Go.Proofs.Ytnmhggdaccbbfaa.MFnExprFree
open Go.RowKit Go.Proofs.YtnmhggdaccbbfaaW.PrintWords Go.Proofs.YtnmhggdaccbbfaaW.PrintLast Go.Proofs.YtnmhggdaccbbfaaW.PrintMore
attribute [local go_sem] max2_int min2_int max_two min_two max_three min_three max_four min_four
set_option linter.unusedVariables false
set_option linter.unusedSimpArgs false
theorem zt12_1 {p : Prop} (h : p := by (with_reducible repeat first|refine zl_ ?_ _|refine zr_ ?_|refine zk_ ?_ _);exact BK396.out) : p := h

def spec_DrawFreeOf.f (k : Nat) (l0 : List Int) : Option ((List (S34))):=(spec_l01New.f k l0).bind fun bt397 => ((spec_l04Any.f bt397.1 bt397.2.1 bt397.2.2).bind fun bt401 => (some bt401.1))
theorem spec_DrawFreeOf.mono : ∀ a0 k,LeO (spec_DrawFreeOf.f k a0) (spec_DrawFreeOf.f (k + 1) a0):=by
 intro a0 k
 unfold spec_DrawFreeOf.f
 repeat' first
   |(with_reducible exact spec_l01New.mono _ _)
   |(with_reducible exact LeO.refl _)
   |(with_reducible exact LeO.none _)
   |(with_reducible refine LeO.ite ?_ ?_)
   |(with_reducible refine LeO.bind ?_ (fun _ => ?_))
set_option maxHeartbeats 8000000 in
set_option maxRecDepth 100000 in
theorem spec_DrawFreeOf.calls (k : Nat) (A0 : Option Addr) (c0 : Nat) (l0 : List Int) (r : List (S34)) (w : World) (hr0 : Kd.C (Kd.int .u8) w A0 l0.length l0) (hc0 : l0.length ≤ c0) (h : spec_DrawFreeOf.f k l0 = some r) :
  Calls Try.prog 39 #[.slice A0 l0.length c0] w fun e w' => ∃ v0_ : Value,e = .returned (.agg #[v0_]) ∧ Kd.N k34 34 w' w.heap.size (fun k_ => (w.heap.size ≤ k_)) v0_ r ∧ Below w.heap.size w w':=by
 have hu28:=Try.underlying28
 have HR0:=zm_ hr0
 have HC0:=zm_ hc0
 clear hr0 hc0
 have HB:=zm_ (Below.refl w.heap.size w)
 have H : ((spec_l01New.f k l0).bind fun bt397 => ((spec_l04Any.f bt397.1 bt397.2.1 bt397.2.2).bind fun bt401 => (some bt401.1))) = some r:=h
 clear h
 replace H:=Option.bind_eq_some_iff.mp H
 obtain ⟨⟨t397,t398,t399⟩,A20,H⟩:=H
 replace H : ((spec_l04Any.f t397 t398 t399).bind fun bt401 => (some bt401.1)) = some r:=H
 have A2:=zm_ A20
 clear A20
 replace H:=Option.bind_eq_some_iff.mp H
 obtain ⟨⟨t401,t404,t405⟩,A30,H⟩:=H
 replace H : (some t401) = some r:=H
 have A3:=zm_ A30
 clear A30
 obtain rfl:=Option.some.inj H
 go_enter Try.func39,Try.ntmps39
 go_wp2_with (first|((with_reducible refine gate_dst (N:=2) rfl ?_);refine box_event ?hg (N:=2) ?hd (cs:=#[.slice none 0 0]) (t:=28) ?hr ?_;(case hd => rfl);(case hg => rfl);(case hr => first|(go_simp;done)|(go_simp;rfl));intro gb396 hg w4 hbox hb;have n0_:=zm_ (below_step zB_ hb);have n1_:=zm_ (hbox);have n2_:=zm_ ((by rw [hg];exact (below_size zB_) : w.heap.size ≤ gb396));have n3_:=zm_ ((by rw [hg];exact (below_size zB_) : w.heap.size ≤ gb396));clear HB;have HB:=n0_;have BK396:=n1_;have GW396:=n2_;have GE396:=n3_;clear n0_ n1_ n2_ n3_;clear hb hbox hg)|((with_reducible refine gate_callee (f:=41) rfl ?_);refine goesL_ (some 4) rfl rfl Try.func41 (by kernel_rfl) rfl #[.slice A0 l0.length c0] rfl zq_ ?_;(with_reducible refine (spec_l01New.calls k _ _ l0 t397 t398 t399 w _ ?side1 ?side2 ?side3 A2.out).mono ?_);(case side1 => repeat (first|(with_reducible first|exact HB.out|apply za_|apply zn_|apply zd_|refine zs_ ?_ GE396.out)|exact HB.out));(case side2 => exact HR0.out);(case side3 => exact HC0.out);rintro e w5 ⟨g400,rfl,hi,hb,hb2⟩;refine ⟨_,rfl,?_⟩;have n0_:=zm_ (blk_below (g:=gb396) (o:=.cells #[.slice none 0 0] 28 (0,0)) zt12_1 hb2);have n1_:=zm_ (hb);have n2_:=zm_ (hi);have n3_:=zm_ (IsS109.ne_blk hi (blk_below (g:=gb396) (o:=.cells #[.slice none 0 0] 28 (0,0)) zt12_1 hb2) (by decide));have n4_:=zm_ (Ne.symm (IsS109.ne_blk hi (blk_below (g:=gb396) (o:=.cells #[.slice none 0 0] 28 (0,0)) zt12_1 hb2) (by decide)));clear BK396;clear HB;have BK396:=n0_;have HB:=n1_;have HI400:=n2_;have NB400_396:=n3_;have NB396_400:=n4_;clear n0_ n1_ n2_ n3_ n4_;(try clear hb);(try clear hb2);(try clear hk);(try clear hi))|((with_reducible refine gate_callee (f:=47) rfl ?_);refine goesL_ (some 5) rfl rfl Try.func47 (by kernel_rfl) rfl #[.pointer (some ⟨g400,0,none⟩)] rfl zq_ ?_;(with_reducible refine (spec_l04Any.calls g400 t397 t398 t399 t401 t404 t405 w _ ?side1 ?side2 A3.out).mono ?_);(case side1 => repeat (first|(with_reducible first|exact HI400.out|apply IsS109.alloc|apply IsS109.drewN|apply IsS109.drew|apply IsS109.set_1|apply IsS109.set_2|refine IsS109.far ?_ NB400_396.out _)|exact HI400.out));(case side2 => repeat (first|(with_reducible first|exact HB.out|apply za_|apply zn_|apply zd_|refine zs_ ?_ (IsS109.ge HI400.out)|refine zs_ ?_ GE396.out)|exact HB.out));rintro e w6 ⟨v402,rfl,ho0,hi,hb,hk⟩;refine ⟨_,rfl,?_⟩;have n0_:=zm_ (KeepBut.blk hk (g':=gb396) (o:=.cells #[.slice none 0 0] 28 (0,0)) zt12_1 NB396_400.out (by simp));have n1_:=zm_ (Kd.N_lower (Kd.N_mono (ok':=fun k_ => (w.heap.size ≤ k_) ∧ k_ ≠ gb396 ∧ k_ ≠ g400) ho0 (fun k_ hk_ => ⟨(Nat.le_trans (below_size (by repeat (first|(with_reducible first|exact HB.out|apply za_|apply zn_|apply zd_|refine zs_ ?_ (IsS109.ge HI400.out)|refine zs_ ?_ GE396.out)|exact HB.out))) hk_),(Kd.freshB (g:=gb396) (o:=.cells #[.slice none 0 0] 28 (0,0)) zt12_1 k_ hk_),(IsS109.fresh (by repeat (first|(with_reducible first|exact HI400.out|apply IsS109.alloc|apply IsS109.drewN|apply IsS109.drew|apply IsS109.set_1|apply IsS109.set_2|refine IsS109.far ?_ NB400_396.out _)|exact HI400.out)) k_ hk_)⟩)) (below_size (by repeat (first|(with_reducible first|exact HB.out|apply za_|apply zn_|apply zd_|refine zs_ ?_ (IsS109.ge HI400.out)|refine zs_ ?_ GE396.out)|exact HB.out))));have n2_:=zm_ (hb);have n3_:=zm_ (hi);clear BK396;clear HB;clear HI400;have BK396:=n0_;have HO403:=n1_;have HB:=n2_;have HI400:=n3_;clear n0_ n1_ n2_ n3_;(try clear hb);(try clear hb2);(try clear hk);(try clear hi);(try clear ho0);obtain ⟨Ao7,co7,eo7⟩:=Kd.N_slice HO403.out;subst eo7;have hnb8:=NB396_400.out;have hnc8:=NB400_396.out;have hcz9_0 : w6.cell? ⟨gb396,0,none⟩ = some (.slice none 0 0):=(zc_ BK396.out 0).trans rfl;have hfz9_0:=zf_ BK396.out 0))
 refine bodyPost_ret (results_cell_row rfl _ _ gb396 28 #[.slice Ao7 t401.length co7] (0,0) _ rfl (by (with_reducible repeat first|refine zl_ ?_ _|refine zr_ ?_|refine zk_ ?_ _);refine blk_put (cs:=#[.slice none 0 0]) ?_ 0 _ rfl;(with_reducible repeat first|refine zl_ ?_ _|refine zr_ ?_|refine zk_ ?_ _);exact BK396.out) Try.underlying28 rfl (by kernel_rfl)) rfl ?_
 exact ⟨_,by first|rfl|(simp [errW_none,errW_some] <;> rfl)|(simp [*,errW_none,errW_some] <;> rfl),by (with_reducible repeat (first|apply Kd.N_alloc|apply Kd.N_drewN|apply Kd.N_drew));exact Kd.N_mono (Kd.N_far (p:=⟨gb396,0,none⟩) (Kd.N_mono HO403.out (fun k_ hk => (⟨hk,hk.2.1⟩ : _ ∧ k_ ≠ gb396))) (fun _ hk => hk.2) (.slice Ao7 t401.length co7)) (fun _ hk => hk.1.1),by repeat (first|(with_reducible first|exact HB.out|apply za_|apply zn_|apply zd_|refine zs_ ?_ (IsS109.ge HI400.out)|refine zs_ ?_ GE396.out)|exact HB.out)⟩

def laws_sameTexts.l0 : Nat → List ByteArray → List ByteArray → Int → Option (Bool)
 |0,_,_,_ => none
 |k + 1,x0,x1,x5 => if x5 < (x0.length : Int) then (if 0 ≤ x5 then (if x5 < (x1.length : Int) then (if (rdOf ByteArray.empty x0 x5).toList = (rdOf ByteArray.empty x1 x5).toList then (laws_sameTexts.l0 k x0 x1 (wrap64 (x5 + 1))) else (some false)) else (none)) else (none)) else (some true)
def laws_sameTexts.f (k : Nat) (l0 : List ByteArray) (l1 : List ByteArray) : Option (Bool):=if (l0.length : Int) = (l1.length : Int) then (laws_sameTexts.l0 k l0 l1 0) else (some false)
theorem laws_sameTexts.mono_l : ∀ k,(∀ y0 y1 y2,LeO (laws_sameTexts.l0 k y0 y1 y2) (laws_sameTexts.l0 (k + 1) y0 y1 y2))
 |0 => fun _ _ _ r h => by simp [laws_sameTexts.l0] at h
 |k + 1 => by
  have ih0:=laws_sameTexts.mono_l k
  ·intro y0 y1 y2
   unfold laws_sameTexts.l0
   repeat' first
   |(with_reducible exact ih0 _ _ _)
   |(with_reducible exact LeO.refl _)
   |(with_reducible exact LeO.none _)
   |(with_reducible refine LeO.ite ?_ ?_)
   |(with_reducible refine LeO.bind ?_ (fun _ => ?_))
theorem laws_sameTexts.mono : ∀ a0 a1 k,LeO (laws_sameTexts.f k a0 a1) (laws_sameTexts.f (k + 1) a0 a1):=by
 intro a0 a1 k
 have ih0:=laws_sameTexts.mono_l k
 unfold laws_sameTexts.f
 repeat' first
   |(with_reducible exact ih0 _ _ _)
   |(with_reducible exact LeO.refl _)
   |(with_reducible exact LeO.none _)
   |(with_reducible refine LeO.ite ?_ ?_)
   |(with_reducible refine LeO.bind ?_ (fun _ => ?_))
set_option maxHeartbeats 8000000 in
set_option maxRecDepth 100000 in
theorem laws_sameTexts.calls (k : Nat) (A0 : Option Addr) (c0 : Nat) (l0 : List ByteArray) (A1 : Option Addr) (c1 : Nat) (l1 : List ByteArray) (r : Bool) (w : World) (hr0 : Kd.C Kd.string w A0 l0.length l0) (hc0 : l0.length ≤ c0) (hr1 : Kd.C Kd.string w A1 l1.length l1) (hc1 : l1.length ≤ c1) (h : laws_sameTexts.f k l0 l1 = some r) :
  Calls Try.prog 40 #[.slice A0 l0.length c0,.slice A1 l1.length c1] w fun e w' => e = .returned (.bool r) ∧ Drawn0 w w':=by
 have HR0:=zm_ hr0
 have HC0:=zm_ hc0
 clear hr0 hc0
 have HR1:=zm_ hr1
 have HC1:=zm_ hc1
 clear hr1 hc1
 have H : (if (l0.length : Int) = (l1.length : Int) then (laws_sameTexts.l0 k l0 l1 0) else (some false)) = some r:=h
 clear h
 by_cases c3 : (l0.length : Int) = (l1.length : Int)
 ·rw [if_pos c3] at H
  have c3b0 : ((l0.length : Int) == (l1.length : Int)) = true:=beq_iff_eq.mpr c3
  have c3b1 : ((l0.length : Int) != (l1.length : Int)) = false:=bne_eq_false_iff_eq.mpr c3
  have c3b2 : (l0.length == l1.length) = true:=by first|simpa using c3|(simp at c3 ⊢;omega)
  clear c3
  have H':=zm_ H
  clear H
  go_enter Try.func40,Try.ntmps40
  go_wp2
  repeat (go_quiet (fail);try go_wp2)
  go_loopg [5] k (fun kq v5 w' => ∃ (x5_1 : Int),v5 = .int .i64 x5_1 ∧ Aside0 (laws_sameTexts.l0 kq l0 l1 x5_1 = some r) ∧ Aside0 (kq ≤ k) ∧ Drawn0 w w')
  case atStart => exact ⟨(0),zV_,H',⟨Nat.le_refl _⟩,by repeat (first|exact Drawn0.refl _|apply Drawn0.step)⟩
  case round =>
   clear H'
   try clear c1
   try clear p2
   try clear c3
   try clear c3b0
   try clear c3b1
   try clear c3b2
   obtain ⟨x5_1,rfl,HA,HK1,⟨m1,rfl⟩⟩:=hrel
   cases gk with
   |zero => exact absurd HA.out (by simp [laws_sameTexts.l0])
   |succ k1 =>
    have H:=HA.out
    clear HA
    simp only [laws_sameTexts.l0] at H
    by_cases c4 : x5_1 < (l0.length : Int)
    ·rw [if_pos c4] at H
     have c4b0 : decide (x5_1 < (l0.length : Int)) = true:=decide_eq_true c4
     clear c4
     by_cases c5 : 0 ≤ x5_1
     ·rw [if_pos c5] at H
      have c5b0 : decide (0 ≤ x5_1) = true:=decide_eq_true c5
      clear c5
      by_cases c6 : x5_1 < (l1.length : Int)
      ·rw [if_pos c6] at H
       have c6b0 : decide (x5_1 < (l1.length : Int)) = true:=decide_eq_true c6
       clear c6
       by_cases c7 : (rdOf ByteArray.empty l0 x5_1).toList = (rdOf ByteArray.empty l1 x5_1).toList
       ·rw [if_pos c7] at H
        have c7b0 : ((rdOf ByteArray.empty l0 x5_1).toList == (rdOf ByteArray.empty l1 x5_1).toList) = true:=beq_iff_eq.mpr c7
        have c7b1 : ((rdOf ByteArray.empty l0 x5_1).toList != (rdOf ByteArray.empty l1 x5_1).toList) = false:=bne_eq_false_iff_eq.mpr c7
        clear c7
        have H':=zm_ H
        clear H
        have p406 : 0 ≤ (x5_1 : Int):=zo_
        have q406 : x5_1 < (l0.length : Int):=zo_
        obtain ⟨ad406,e406,hx406_0⟩:=Kd.at_string HR0.out x5_1 p406 q406
        cases e406
        replace p406:=eq_true p406
        replace q406:=eq_true q406
        have p407 : 0 ≤ (x5_1 : Int):=zo_
        have q407 : x5_1 < (l1.length : Int):=zo_
        obtain ⟨ad407,e407,hx407_0⟩:=Kd.at_string HR1.out x5_1 p407 q407
        cases e407
        replace p407:=eq_true p407
        replace q407:=eq_true q407
        go_wp2
        repeat (go_quiet (fail);try go_wp2)
        go_roundg k1
        case measure => have:=HK1.out;omega
        case rel => exact ⟨(wrap64 (x5_1 + 1)),zV_,H',⟨by have:=HK1.out;omega⟩,by repeat (first|exact Drawn0.refl _|apply Drawn0.step)⟩
       ·rw [if_neg c7] at H
        have c7b0 : ((rdOf ByteArray.empty l0 x5_1).toList == (rdOf ByteArray.empty l1 x5_1).toList) = false:=beq_eq_false_iff_ne.mpr c7
        have c7b1 : ((rdOf ByteArray.empty l0 x5_1).toList != (rdOf ByteArray.empty l1 x5_1).toList) = true:=bne_iff_ne.mpr c7
        obtain rfl:=Option.some.inj H
        have p406 : 0 ≤ (x5_1 : Int):=zo_
        have q406 : x5_1 < (l0.length : Int):=zo_
        obtain ⟨ad406,e406,hx406_0⟩:=Kd.at_string HR0.out x5_1 p406 q406
        cases e406
        replace p406:=eq_true p406
        replace q406:=eq_true q406
        have p407 : 0 ≤ (x5_1 : Int):=zo_
        have q407 : x5_1 < (l1.length : Int):=zo_
        obtain ⟨ad407,e407,hx407_0⟩:=Kd.at_string HR1.out x5_1 p407 q407
        cases e407
        replace p407:=eq_true p407
        replace q407:=eq_true q407
        go_wp2
        repeat (go_quiet (fail);try go_wp2)
        go_ret
        exact ⟨by first|rfl|(simp;done)|(simp [*];done),by repeat (first|exact Drawn0.refl _|apply Drawn0.step)⟩
      ·rw [if_neg c6] at H
       exact absurd H (by simp)
     ·rw [if_neg c5] at H
      exact absurd H (by simp)
    ·rw [if_neg c4] at H
     have c4b0 : decide (x5_1 < (l0.length : Int)) = false:=decide_eq_false c4
     clear c4
     obtain rfl:=Option.some.inj H
     go_wp2
     repeat (go_quiet (fail);try go_wp2)
     go_ret
     exact ⟨by first|rfl|(simp;done)|(simp [*];done),by repeat (first|exact Drawn0.refl _|apply Drawn0.step)⟩
 ·rw [if_neg c3] at H
  have c3b0 : ((l0.length : Int) == (l1.length : Int)) = false:=beq_eq_false_iff_ne.mpr c3
  have c3b1 : ((l0.length : Int) != (l1.length : Int)) = true:=bne_iff_ne.mpr c3
  have c3b2 : (l0.length == l1.length) = false:=by first|simpa using c3|(simp at c3 ⊢;omega)
  obtain rfl:=Option.some.inj H
  go_enter Try.func40,Try.ntmps40
  go_wp2
  repeat (go_quiet (fail);try go_wp2)
  go_ret
  exact ⟨by first|rfl|(simp;done)|(simp [*];done),by repeat (first|exact Drawn0.refl _|apply Drawn0.step)⟩

end Go.Proofs.Ytnmhggdaccbbfaa.MFnExprFree
